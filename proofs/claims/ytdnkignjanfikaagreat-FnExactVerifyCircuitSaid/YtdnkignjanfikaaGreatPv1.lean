/- Part. -/
import Derived.Test.YtdnkignjanfikaaGreatPv0
set_option linter.unusedVariables false
set_option linter.unusedSimpArgs false
namespace Go.AI.Fn
section
theorem a9I {n:Int} (x:UInt8) (h0:0<=n) (d:n<72057594037927936):xi .u64 (bC .u64 n 8) (IntKind.wrap .u64 (x.toNat:Int))=n*256+x.toNat:=by
 a e:=Ai x
 a e1:bC .u64 n 8=n*256:=by
   a:n*2^(min (8:Int).toNat (IntKind.bits .u64))=n*256:=by
    a:(2:Int)^(min (8:Int).toNat (IntKind.bits .u64))=256:=by decide
    rw [this]
   unfold bC
   rw [this,ee _ om om]
 rw [e1,ee (x.toNat:Int) om om]
 unfold xi
 obtain ⟨m,rfl⟩:=nm h0
 a e2:(BitVec.ofInt (IntKind.bits .u64) ((m:Int)*256)|||BitVec.ofInt (IntKind.bits .u64) (x.toNat:Int)).toNat=m*256+x.toNat:=by
   rw [BitVec.toNat_or,gy,gy]
   a b:(((m:Int)*256)%((2^(IntKind.bits .u64):Nat):Int)).toNat=m<<<8:=by
     rw [show ((2^(IntKind.bits .u64):Nat):Int)=18446744073709551616 by decide,nI];omega
   a c:((x.toNat:Int)%((2^(IntKind.bits .u64):Nat):Int)).toNat=x.toNat:=by
     rw [show ((2^(IntKind.bits .u64):Nat):Int)=18446744073709551616 by decide];omega
   rw [b,c, <-Nat.shiftLeft_add_eq_or_of_lt (show x.toNat<2^8 by omega),nI]
 rw [e2,ee _ om om]
 omega
theorem a52: ∀(l:List UInt8) (k:Nat),k<=8->k<=l.length->0<=beN (l.take k)/\beN (l.take k)<256^k
 |l,0,_,_=>by simp [beN]
 |l,k+1,h,b=>by
  a ⟨h0,c⟩:=a52 l k om om
  a d:=Ai l[k]
  rw [db om,Sg]
  a:(256:Int)^(k+1)=256^k*256:=g9 _ _
  rw [this]
  generalize (256:Int)^k=p at*
  omega
theorem c8J: ∀k:Nat,k<8->(256:Int)^k<=72057594037927936:=by decide
theorem NF {t:List UInt8} (h:t.length=8):Bq t=some (b0X t):=by
 unfold Bq
 a key:Loop (m9 t (t.length:Int)) (0,0)=some (beN t,(t.length:Int),false):=by
   a key:=bu (step:=m9 t (t.length:Int)) (fun k=>(beN (t.take k),(k:Int))) t.length (e:=(beN t,(t.length:Int),false)) (fun k b=> ?_) ?_
   ·exact key
   ·a ⟨h0,c⟩:=a52 t k om om
    a d:=c8J k om
    simp only [m9]
    rw [brd om,ck b,obs,a9I _ h0 om,ak _ om om,db b,Sg];rfl
   ·simp only [m9]
    rw [brn om,ag om,bk]
 a ⟨h0,c⟩:=a52 t 8 om om
 rw [bZ om] at h0 c
 rw [key,obs]
 dsimp only
 rw [ej _ _ h0,ak _ om om];rfl
theorem vj {s:Source} {t:List UInt8} (c:s.State.length=32) (d:t.length<=1000000):fO t s=some (tkM s t):=by
 unfold fO
 a b:[s.State,[97,98,115,111,114,98],ic (t.length:Int),t].flatten=s.State++(b5V++(ic t.length++t)):=by simp [b5V]
 rw [bt om,H4,obs,vq (by rw [b];simp only [ab,dJ,b5V,ah,ai];omega) (by simp),obs,b];rfl
theorem We {s:Source} (h:G9 s):je s=some ((vT s).2,(vT s).1):=by
 a j:=h.1
 a m:=h.3
 a d:=h.4
 a n:=h.5
 a o:=h.6
 a p:=h.7
 unfold je vT
 by_cases c:s.Script.length=0
 ·a q:=dJ s.Count
  a r:=Ef (s.State++(XJ++ic s.Count))
  a e:[s.State,[100,114,97,119],ic s.Count].flatten=s.State++(XJ++ic s.Count):=by simp [XJ]
  rw [brn om,ae c,bt om,H4,obs,vq (by rw [e];simp only [ab,dJ,XJ,ah,ai];omega) (by simp),obs,e,bt om,
   m3 om om om,obs,NF (by simp;omega),obs,m3 om om om,obs,NF (by simp;omega),obs,ak _ om om]
  rfl
 ·a f:=pi s.At (b:=(s.Script.length:Int)) om
  a i:=md s.At (b:=(s.Script.length:Int)) om
  rw [brd om,aa c,brd om,ak (s.At+1) om om,ak (s.At+1-1) om om,show s.At+1-1=s.At by omega,ej _ _ d]
  a e:atL s.Script (s.At%(s.Script.length:Int))=some (s.Script.getD (s.At%(s.Script.length:Int)).toNat e0):=by
    a:=a7I (l:=s.Script) (k:=(s.At%(s.Script.length:Int)).toNat) om
    rwa [eo f] at this
  rw [e];rfl
def drS (s:Source):Nat->Source
 |0=>s
 |j+1=>(vT (drS s j)).1
def drL (s:Source) (n:Nat):List Ext:=(List.range n).map fun j=>(vT (drS s j)).2
theorem oo (s:Source) (n:Nat):(drL s n).length=n:=by simp [drL]
theorem GV {s:Source} {k:Int} (h:Few s k) (a:k<=999890): ∀j:Nat,j<=100->Few (drS s j) (k+j)
 |0,_=>h.mono om
 |j+1,b=>((GV h a j om).draw om).mono om
theorem SO {s:Source} {k:Int} (h:Few s k) (c:k<=999890) {n:Nat} (e:n<=100):gX (drL s n):=fun x d=>by
 obtain ⟨j,a,rfl⟩:=bq.1 d
 b a:=bU.1 a
 exact a02 (GV h c j om).1
theorem a0P (s:Source) (n:Nat):drL s (n+1)=drL s n++[(vT (drS s n)).2]:=by simp [drL,gB]
theorem Js {s:Source} {k:Int} (h:Few s k) (b:k<=999890) {n:Nat} (c:n<=100):jG (n:Int) s=some (drL s n,drS s n):=by
 unfold jG
 a key:=bu (step:=fS (n:Int)) (fun j=>(drL s j,(j:Int),(drS s j).Script,(drS s j).At,(drS s j).State,(drS s j).Count)) n (e:=(drL s n,(n:Int),false,(drS s n).Script,(drS s n).At,(drS s n).State,(drS s n).Count)) (fun j d=> ?_) ?_
 ·a key':Loop (fS (n:Int)) ([],0,s.Script,s.At,s.State,s.Count)=_:=key
  rw [key'];rfl
 ·simp only [fS]
  rw [brd om,We (GV h b j om).1,obs,bt (by simp only [ab,oo,am];omega),ak _ om om, <-a0P];rfl
 ·simp only [fS]
  rw [brn om,ag om]
theorem Mv {s:Source} {k:Int} (h:Few s k) (b:k<=999890) {n:Nat} (c:n<=100):te s (n:Int)=some (drS s n,drL s n):=by
 unfold te
 a key:=bu (step:=kD (n:Int) 0 [] 0) (fun j=>(drL s j,(j:Int),(drS s j).Script,(drS s j).At,(drS s j).State,(drS s j).Count)) n (e:=(drL s n,(n:Int),false,(drS s n).Script,(drS s n).At,(drS s n).State,(drS s n).Count)) (fun j d=> ?_) ?_
 ·a key':Loop (kD (n:Int) 0 [] 0) ([],0,s.Script,s.At,s.State,s.Count)=_:=key
  rw [key'];rfl
 ·simp only [kD]
  rw [brd om,Wo (GV h b j om).1,obs,bt (by simp only [ab,oo,am];omega),ak _ om om, <-a0P];rfl
 ·simp only [kD]
  rw [brn om,ag om]
theorem a3A {s:Source} (h:s.Script.length<=1000000):mz s=some s:=by
 unfold mz hO
 rw [bt om];rfl
variable {s:Source} {k:Int}
theorem c7H {a b c:Int} (h:a<=c) (g:b<=c):mx a b<=c:=by unfold mx;split<;>assumption
def plM (l:List Ext) (m:Int):List Int:=l.map fun x=>x.A%m
theorem a1E {l:List Ext} {m:Int} (c:l.length<=1000) (ok:gX l) (d:0<m):Fj l m=some (plM l m):=by
 unfold Fj
 b key:Loop (m6 m l (l.length:Int)) ([],0)=some (plM l m,(l.length:Int),false):=
   bu (step:=m6 m l (l.length:Int)) (fun j=>(plM (l.take j) m,(j:Int))) l.length (fun j a=>by
    simp only [m6]
    rw [brd om,ck a,obs,brd om,bt (by simp only [ab,plM,aO,bc,am];omega),ak _ om om,ej _ _ (ok.get a).1.1,db a]
    simp only [plM,cI,aP,dL,lm]) (by
    simp only [m6]
    rw [brn om,ag om,bk])
 rw [key];rfl
theorem a2k {l:List Ext} {m:Int} {c c8:List Ext} {c2 c4 c5 c7 c9 c11:Int} {c3 c6 c10:List UInt8} (b:l.length<=1000) (ok:gX l) (d:0<m):Loop (iP (l.length:Int) m l c c2 c3 c4 c5 c6 c7 c8 c9 c10 c11) ([],0)=some (plM l m,(l.length:Int),false):=
 bu (step:=iP (l.length:Int) m l c c2 c3 c4 c5 c6 c7 c8 c9 c10 c11) (fun j=>(plM (l.take j) m,(j:Int))) l.length (fun j a=>by
  simp only [iP]
  rw [brd om,ck a,obs,brd om,bt (by simp only [ab,plM,aO,bc,am];omega),ak _ om om,ej _ _ (ok.get a).1.1,db a]
  simp only [plM,cI,aP,dL,lm]) (by
  simp only [iP]
  rw [brn om,ag om,bk])
end
section
def toK (x:Ext):K:=⟨⟨x.A%2130706433,x.B%2130706433⟩,⟨kS _,kS _⟩⟩
theorem mi {x:Ext} (h:okE x):(toK x).1=x:=MO (GH h.1) (GH h.2)
theorem Pc (l:List Ext):(l.flatMap e8).length=8*l.length:=by
 induction l with
 |nil=>rfl
 |cons x l ih=>simp only [cm,ab,ih,c3W,ah];omega
def rsM (s:Source) (g:List K):Source:=tkM s ((kv g).flatMap e8)
def rdM (s:Source) (g:List K):K:=toK (vT (rsM s g)).2
def nsM (s:Source) (g:List K):Source:=(vT (rsM s g)).1
theorem JQ {s:Source} {k:Int} (h:Few s k) (b:k<=999990) (g:List K):Few (nsM s g) (k+2):=by
 a:=(h.take ((kv g).flatMap e8)).draw om
 rw [show k+1+1=k+2 by omega] at this;exact this
theorem b1v {s:Source} {k:Int} (h:Few s k) (g:List K):(rdM s g).1=(vT (rsM s g)).2:=mi (a02 (h.take _).1)
theorem T2 {s:Source} (h:G9 s) {g:List K} (b:g.length<=1000):cZ (kv g) s=some (rsM s g):=by
 a e:=Pc (kv g)
 rw [cg] at e
 unfold cZ
 rw [HS (by rw [cg];omega),obs,vj h.3 om];rfl
theorem Rw {s:Source} (h:G9 s) {g:List K} (b:g.length<=1000):kZ s (kv g)=some (rsM s g):=by
 a e:=Pc (kv g)
 rw [cg] at e
 unfold kZ
 rw [Sq (by rw [cg];omega),obs,vx h.3 om];rfl
theorem c1V {s:Source} {k:Int} (h:Few s k) (g:List K):je (rsM s g)=some ((rdM s g).1,nsM s g):=by
 rw [We (s:=rsM s g) (h.take _).1,b1v h];rfl
theorem c1Y {s:Source} {k:Int} (h:Few s k) (g:List K):rB (rsM s g)=some (nsM s g,(rdM s g).1):=by
 rw [Wo (s:=rsM s g) (h.take _).1,b1v h];rfl
variable {kind:Nat} {bh:List K->Source->Source}
theorem b8x (v:Nat):2^(v+1)=2*2^v:=by rw [fT,oA]
theorem OkT.up {v:Nat} {T:List (List K)} (h:OkT kind (2^(v+1)) T) (r:K):OkT kind (2^v) (bdK r T):=by
 rw [b8x] at h;exact h.bd r
noncomputable instance c6J:DecidableEq K:=fun a b=>Classical.propDecidable _
noncomputable def vfM (kind:Nat) (bv:Nat->Source->Source):List (List K)->Nat->K->Source->Int×List K×K×Source
 |[],i,c,s=>(0,[],c,s)
 |g::R,i,c,s=>if g.length=kind+2 then (if g.getD 0 0+g.getD 1 0=c then
   ((vfM kind bv R (i+1) (lnK g (rdM s g)) (bv i (nsM s g))).1,rdM s g::(vfM kind bv R (i+1) (lnK g (rdM s g)) (bv i (nsM s g))).2.1,(vfM kind bv R (i+1) (lnK g (rdM s g)) (bv i (nsM s g))).2.2) else (10,[],c,s)) else (18,[],c,s)
def bv0:Nat->Source->Source:=fun _ s=>s
def c51 (bv:Nat->Source->Source):Prop:= ∀i s k,Few s k->k<=999990->Few (bv i s) (k+1)
theorem b2B:c51 bv0:=fun i s k h _=>h.mono om
variable {bv:Nat->Source->Source}
theorem QU (b:c51 bv): ∀(R:List (List K)) (i:Nat) (c:K) (s:Source) (k:Int),Few s k->k+3*R.length<=999990->Few (vfM kind bv R i c s).2.2.2 (k+3*R.length)
 |[],i,c,s,k,h,d=>by rw [ai,show k+3*((0:Nat):Int)=k by omega];exact h
 |g::R,i,c,s,k,h,d=>by
  rw [ah] at d ⊢
  rw [vfM]
  by_cases a:g.length=kind+2
  ·by_cases e:g.getD 0 0+g.getD 1 0=c
   ·rw [ae a,ae e]
    f:=QU b R (i+1) (lnK g (rdM s g)) _ _ (b i _ _ (JQ h om g) om) om
    rw [show k+2+1+3*(R.length:Int)=k+3*((R.length+1:Nat):Int) by omega] at this
    exact this
   ·rw [ae a,aa e];exact h.mono om
  ·rw [aa a];exact h.mono om
theorem QL: ∀(R:List (List K)) (i:Nat) (c:K) (s:Source),(vfM kind bv R i c s).1=0->(vfM kind bv R i c s).2.1.length=R.length
 |[],i,c,s,h=>rfl
 |g::R,i,c,s,h=>by
  rw [vfM] at h ⊢
  by_cases a:g.length=kind+2
  ·by_cases b:g.getD 0 0+g.getD 1 0=c
   ·rw [ae a,ae b] at h ⊢
    simp only [ah];rw [QL R _ _ _ h]
   ·rw [ae a,aa b] at h;exact absurd (show (10:Int)=0 from h) (by decide)
  ·rw [aa a] at h;exact absurd (show (18:Int)=0 from h) (by decide)
theorem c7N (a b:K):(a.1.A==b.1.A&&a.1.B==b.1.B)=decide (a=b):=by
 by_cases h:a=b
 ·subst h;simp
 ·rw [ag h]
  refine Bool.eq_false_iff.2 fun e=>h ?_
  simp only [aD,beq_iff_eq] at e
  exact K.ext (MO e.1 e.2)
theorem Hu {α:Type} (a b:K) (x y:α):br (a.1.A==b.1.A) (br (a.1.B==b.1.B) x y) y=if a=b then x else y:=by
 c:=c7N a b
 cases d:(a.1.A==b.1.A)<;>cases e:(a.1.B==b.1.B)<;>rw [d,e] at this<;>simp at this<;>simp [this,br]
theorem atK {l:List K} {j:Nat} {i:Int} (hi:i=(j:Int)) (h:j<l.length):atL (kv l) i=some (l.getD j 0).1:=by subst hi;exact wE h
theorem Vy {c7 c8:Int} (b:kind=1\/kind=2): ∀(R pre:List (List K)) (c:K) (s:Source) (k:Int) (P:List Ext),Few s k->k+3*R.length<=999990->P.length+R.length<=999990->pre.length+R.length<=999990->
 ((vfM kind bv0 R pre.length c s).1=0->Loop (bH (kind:Int) (kvv (pre++R)) ((pre++R).length:Int) c7 c8) (P,(pre.length:Int),s.Script,s.At,s.State,s.Count,c.1.A,c.1.B)=
   some (.inr (P++kv (vfM kind bv0 R pre.length c s).2.1,((pre++R).length:Int),false,(vfM kind bv0 R pre.length c s).2.2.2.Script,(vfM kind bv0 R pre.length c s).2.2.2.At,(vfM kind bv0 R pre.length c s).2.2.2.State,(vfM kind bv0 R pre.length c s).2.2.2.Count,
    (vfM kind bv0 R pre.length c s).2.2.1.1.A,(vfM kind bv0 R pre.length c s).2.2.1.1.B)))/\
 ((vfM kind bv0 R pre.length c s).1≠0-> ∃P' A B,Loop (bH (kind:Int) (kvv (pre++R)) ((pre++R).length:Int) c7 c8) (P,(pre.length:Int),s.Script,s.At,s.State,s.Count,c.1.A,c.1.B)=
   some (.inl (P',(vfM kind bv0 R pre.length c s).1,(vfM kind bv0 R pre.length c s).2.2.2.Script,(vfM kind bv0 R pre.length c s).2.2.2.At,(vfM kind bv0 R pre.length c s).2.2.2.State,(vfM kind bv0 R pre.length c s).2.2.2.Count,A,B)))
 |[],pre,c,s,k,P,f,n,o,p=>by
  refine ⟨fun _=>bX ?_,fun h=>absurd rfl h⟩
  simp only [bH,bV]
  rw [brn om,ag om]
  simp [vfM,kv]
 |g::R,pre,c,s,k,P,f,n,o,p=>by
  rw [ah] at n o p
  a hat:atL (kvv (pre++g::R)) (pre.length:Int)=some (kv g):=by rw [Xe (by simp)];simp
  a d:(pre.length:Int)<((pre++g::R).length:Int):=by rw [ab,ah];omega
  rw [vfM]
  by_cases m:g.length=kind+2
  ·by_cases l:g.getD 0 0+g.getD 1 0=c
   ·rw [ae m,ae l]
    a ih:=Vy (c7:=c7) (c8:=c8) b R (pre++[g]) (lnK g (rdM s g)) (nsM s g) (k+2) (P++[(rdM s g).1]) (JQ f om g) om (by rw [ab,am];omega) (by rw [ab,am];omega)
    rw [aV,aU,ab,am] at ih
    a step:bH (kind:Int) (kvv (pre++g::R)) ((pre++g::R).length:Int) c7 c8 (P,(pre.length:Int),s.Script,s.At,s.State,s.Count,c.1.A,c.1.B)=
     some (.inl (P++[(rdM s g).1],((pre.length+1:Nat):Int),(nsM s g).Script,(nsM s g).At,(nsM s g).State,(nsM s g).Count,(lnK g (rdM s g)).1.A,(lnK g (rdM s g)).1.B)):=by
      simp only [bH]
      rw [brd d,hat,obs,Av b,obs,ak _ om om,fj (by rw [cg];omega),atK (i:=0) (j:=0) rfl om,obs,atK (i:=1) (j:=1) rfl om,obs,kW (aI _) (aI _),obs]
      rw [show eA (g.getD 0 0).1 (g.getD 1 0).1=c.1 from congrArg Subtype.val l,bre rfl,bre rfl,show Source.mk s.Script s.At s.State s.Count=s from rfl,T2 f.1 om,obs,c1V f,obs]
      dsimp only
      rw [Nr _ om,obs,bt (by rw [ab,am];omega),ak _ om om];rfl
    refine ⟨fun h=> ?_,fun h=> ?_⟩
    ·rw [cf step,ih.1 h]
     simp [kv,bv0]
    ·obtain ⟨P',A,B,e⟩:=ih.2 h
     exact ⟨P',A,B,by rw [cf step,e];rfl⟩
   ·rw [ae m,aa l]
    refine ⟨fun h=>absurd (show (10:Int)=0 from h) (by decide),fun _=>⟨P,c.1.A,c.1.B,bX ?_⟩⟩
    simp only [bH]
    rw [brd d,hat,obs,Av b,obs,ak _ om om,fj (by rw [cg];omega),atK (i:=0) (j:=0) rfl om,obs,atK (i:=1) (j:=1) rfl om,obs,kW (aI _) (aI _),obs]
    rw [show eA (g.getD 0 0).1 (g.getD 1 0).1=(g.getD 0 0+g.getD 1 0).1 from rfl,Hu,aa l]
  ·rw [aa m]
   refine ⟨fun h=>absurd (show (18:Int)=0 from h) (by decide),fun _=>⟨P,c.1.A,c.1.B,bX ?_⟩⟩
   simp only [bH]
   rw [brd d,hat,obs,Av b,obs,ak _ om om,brb (by rw [cg];omega)]
theorem FK (b:kind=1\/kind=2) {R:List (List K)} {c:K} {s:Source} {k:Int} (d:Few s k) (f:k+3*R.length<=999990):
 cO (kind:Int) c.1 (kvv R) s=some (if (vfM kind bv0 R 0 c s).1=0 then (kv (vfM kind bv0 R 0 c s).2.1,(vfM kind bv0 R 0 c s).2.2.1.1,0,(vfM kind bv0 R 0 c s).2.2.2) else ([],e0,(vfM kind bv0 R 0 c s).1,(vfM kind bv0 R 0 c s).2.2.2)):=by
 a i:0<=k:=by a:=d.2;a:=d.1.4;omega
 a h:=Vy (c7:=0) (c8:=0) b R [] c s k [] d f (by rw [ai];omega) (by rw [ai];omega)
 rw [bg,ai] at h
 unfold cO
 rw [Zp]
 by_cases h0:(vfM kind bv0 R 0 c s).1=0
 ·rw [ae h0]
  a:=h.1 h0
  rw [show (((0:Nat):Int))=0 from rfl] at this
  rw [this];rfl
 ·rw [aa h0]
  obtain ⟨P',A,B,e⟩:=h.2 h0
  rw [show (((0:Nat):Int))=0 from rfl] at e
  rw [e];rfl
end
section
structure OkM (l:List au) (R C:Int):Prop where
 len:l.length<=200
 ent: ∀x∈l,inE R C x
 srt: ∀k (hk:k<l.length), ∀y∈l.take k,ltE y l[k]
theorem Vw {x y z:au} (h:ltE x y) (g:ltE y z):ltE x z:=by unfold ltE at*;omega
open Classical in
theorem Z8 {l:List au} {R C:Int} (h:vO l R C=true):OkM l R C:=by
 unfold vO at h
 obtain ⟨i,e⟩:=jJ h
 refine ⟨i,fun x j=> ?_,fun k=> ?_⟩
 ·obtain ⟨k,d,rfl⟩:=bp j
  by_cases c:inE R C l[k]
  ·exact c
  ·exact absurd ⟨_,v8 d,.inl c⟩ (e k)
 ·induction k with
  |zero=>intro d y a;simp at a
  |succ k ih=>
   intro d y a
   rw [db om] at a
   f b:ltE l[k] l[k+1]:=by
     by_cases c:ltE l[k] l[k+1]
     ·exact c
     ·exact absurd ⟨_,v8 d,.inr ⟨by omega,_,v8 om,c⟩⟩ (e (k+1))
   rcases aX.1 a with a|a
   ·exact Vw (ih om y a) b
   ·rw [dV.1 a];exact b
theorem b32 {R C:Int} {x:au} (h:inE R C x):okF x.Value:=⟨by a:=h.2.2.1;omega,h.2.2.2⟩
def HB (l:List au):List UInt8:=l.flatMap fun x=>[UInt8.ofInt x.Row,UInt8.ofInt x.Col]++ic x.Value
theorem C5 (l:List au):(HB l).length=6*l.length:=by
 induction l with
 |nil=>rfl
 |cons x l ih=>simp only [HB,cm,ab,ah] at*;rw [ih];simp [dJ];omega
theorem Vv (l:List au) (x:au):HB (l++[x])=HB l++([UInt8.ofInt x.Row,UInt8.ofInt x.Col]++ic x.Value):=by simp [HB]
def Rg (l:List au):List UInt8:=ic (l.length:Int)++HB l
def OO (s:bj):List UInt8:=[115,121,115,116,101,109]++[UInt8.ofInt s.Rows,UInt8.ofInt s.Cols,UInt8.ofInt s.Publics]++Rg s.A++Rg s.B++Rg s.C
theorem Lo (l:List au):(Rg l).length=4+6*l.length:=by rw [Rg,ab,C5,dJ]
theorem Mk {l2 L:List UInt8} {t t2 t3 l c4 c5 c6:List au} {t4 c c2 c3:Int} (h:l.length<=200) (hL:L.length<=1000000):Loop (dM l2 t t2 t3 t4 l (l.length:Int) c c2 c3 c4 c5 c6) (L,0)=some (L++HB l,(l.length:Int),false):=by
 a key:=bu (step:=dM l2 t t2 t3 t4 l (l.length:Int) c c2 c3 c4 c5 c6) (fun k=>(L++HB (l.take k),(k:Int))) l.length (e:=(L++HB l,(l.length:Int),false)) (fun k b=> ?_) ?_
 ·simpa [HB] using key
 ·simp only [dM]
  a d:=C5 (l.take k)
  rw [bc] at d
  rw [brd om,ck b,obs,bt (by simp only [ab,ah,ai];omega),qE (by simp only [ab,ah,ai];omega),obs,ak _ om om,db b,Vv]
  simp only [aV,lm]
 ·simp only [dM]
  rw [brn om,ag om,bk]
theorem a5p {l2 L:List UInt8} {t t2 t3 l c4 c5 c6:List au} {t4 c c2 c3:Int} (h:l.length<=200) (hL:L.length<=1000000):Loop (iI l2 t t2 t3 t4 l (l.length:Int) c c2 c3 c4 c5 c6) (L,0)=some (L++HB l,(l.length:Int),false):=Mk (l2:=l2) (t:=t) (t2:=t2) (t3:=t3) (c4:=c4) (c5:=c5) (c6:=c6) (t4:=t4) (c:=c) (c2:=c2) (c3:=c3) h hL
theorem a4c {l2 L:List UInt8} {t t2 t3 l c4 c5 c6:List au} {t4 c c2 c3:Int} (h:l.length<=200) (hL:L.length<=1000000):Loop (iy l2 t t2 t3 t4 l (l.length:Int) c c2 c3 c4 c5 c6) (L,0)=some (L++HB l,(l.length:Int),false):=Mk (l2:=l2) (t:=t) (t2:=t2) (t3:=t3) (c4:=c4) (c5:=c5) (c6:=c6) (t4:=t4) (c:=c) (c2:=c2) (c3:=c3) h hL
theorem OY {s:bj} (b:s.A.length<=200) (c:s.B.length<=200) (d:s.C.length<=200):iV s=some (OO s):=by
 a e:=C5 s.A
 a f:=C5 s.B
 a c1:=C5 s.C
 unfold iV fu
 rw [bt (by simp only [ab,ah,ai];omega),obs]
 dsimp only
 rw [qE (by simp only [ab,ah,ai];omega),obs,Mk b (by simp only [ab,ah,ai,dJ];omega),obs,
  qE (by simp only [ab,ah,ai,dJ];omega),obs,a5p c (by simp only [ab,ah,ai,dJ];omega),obs,
  qE (by simp only [ab,ah,ai,dJ];omega),obs,a4c d (by simp only [ab,ah,ai,dJ];omega),obs]
 simp only [OO,Rg,aV]
theorem a28 (s:bj):(OO s).length=21+6*(s.A.length+s.B.length+s.C.length):=by
 simp only [OO,ab,Lo,ah,ai];omega
theorem a5B {l3 L:List UInt8} {l4:List (List au)} {l c4 c5 c6:List au} {c c2 c3:Int} {j:Nat} (b:l4[j]? =some l) (h:l.length<=200) (hL:L.length<=1000000):Loop (iL l3 l4 (j:Int) c c2 c3 c4 c5 c6) (L,0)=some (L++HB l,(l.length:Int),false):=by
 a f:j<l4.length:=by
   rcases cA j l4.length with h|h
   ·exact h
   ·rw [bD h] at b;cases b
 a key:=bu (step:=iL l3 l4 (j:Int) c c2 c3 c4 c5 c6) (fun k=>(L++HB (l.take k),(k:Int))) l.length (e:=(L++HB l,(l.length:Int),false)) (fun k d=> ?_) ?_
 ·simpa [HB] using key
 ·simp only [iL]
  a i:=C5 (l.take k)
  rw [bc] at i
  rw [brd om,brd om,aK,b,obs,brd om,brd om,brd om,obs,ck d,obs,zI,obs,bt (by rw [dJ];simp only [ah,ai];omega),
   bt (by simp only [ab,ah,ai,dJ];omega),ak _ om om,db d,Vv]
  simp only [aV,lm]
 ·simp only [iL]
  rw [brd om,brd om,aK,b,obs,brn om,ag om,bk]
theorem M3 {l3 L:List UInt8} {l4:List (List au)} {l c4 c5 c6:List au} {c c2 c3:Int} {j:Nat} (a:l4[j]? =some l) (e:j<3) (h:l.length<=200) (hL:L.length<=900000):jY l3 l4 c c2 c3 c4 c5 c6 (L,(j:Int))=some (.inl (L++Rg l,((j+1:Nat):Int))):=by
 b d:j<l4.length:=by
   rcases cA j l4.length with h|h
   ·exact h
   ·rw [bD h] at a;cases a
 simp only [jY]
 rw [brd om,brd om,brd om,aK,a,obs,zI,obs,bt (by rw [dJ];omega),a5B a h (by rw [ab,dJ];omega),obs,ak _ om om,Rg]
 simp only [aV,lm]
theorem Qt {s:bj} (b:s.A.length<=200) (c:s.B.length<=200) (d:s.C.length<=200):vW s=some (H (OO s)):=by
 a e:=Lo s.A
 a f:=Lo s.B
 a c1:=Lo s.C
 a h:=a28 s
 unfold vW
 rw [bt (by simp only [ah,ai];omega),show (0:Int)=((0:Nat):Int) from rfl,
  cf (M3 (l:=s.A) (j:=0) rfl om b (by simp only [ab,ah,ai];omega)),
  cf (M3 (l:=s.B) (j:=1) rfl om c (by simp only [ab,ah,ai];omega)),
  cf (M3 (l:=s.C) (j:=2) rfl om d (by simp only [ab,ah,ai];omega)),
  bX (by simp only [jY];rw [brn om]),obs]
 dsimp only
 rw [show [115,121,115,116,101,109]++[UInt8.ofInt s.Rows,UInt8.ofInt s.Cols,UInt8.ofInt s.Publics]++Rg s.A++Rg s.B++Rg s.C=OO s from rfl,tD om];rfl
end
section
def TT:List K->List K->K
 |a::xs,b::ys=>a*b+TT xs ys
 |_,_=>0
theorem a1h: ∀(a b:List K) (c:K),((kv a).zip (kv b)).foldl (fun c p=>eA c (eM p.1 p.2)) c.1=(c+TT a b).1
 |[],b,c=>by
  show c.1=(c+0).1
  exact congrArg Subtype.val (by exact kg)
 |_::_,[],c=>by
  show c.1=(c+0).1
  exact congrArg Subtype.val (by exact kg)
 |x::a,y::b,c=>by
  d:=a1h a b (c+x*y)
  show ((kv a).zip (kv b)).foldl _ (c+x*y).1=_
  rw [this]
  exact congrArg Subtype.val (by rw [TT];exact kg)
theorem a5g (a b:List K):V0 (kv a) (kv b)=(TT a b).1:=by
 c:=a1h a b 0
 rw [V0]
 rw [show e0=(0:K).1 from rfl,this]
 exact congrArg Subtype.val (by exact kg)
def btS (β:K) (R T:List K) (x:au):List K:=T.set x.Col.toNat (T.getD x.Col.toNat 0+β*R.getD x.Row.toNat 0*kF x.Value)
theorem pW (β:K) (R:List K): ∀(l:List au) (T:List K),(l.foldl (btS β R) T).length=T.length
 |[],T=>rfl
 |x::l,T=>by rw [pa,pW β R l,btS,bf]
theorem b68 (l:List K) (j:Nat) (x:K):(kv l).set j x.1=kv (l.set j x):=by simp [kv,List.map_set]
theorem Tg {R T:List K} {β:K} {l t t2 t3 c4 c5 c6:List au} {t4 c c2 c3 c9 c10 c11 c12 RR CC:Int} (f:OkM l RR CC) (n:(R.length:Int)=RR) (o:(T.length:Int)=CC):
 Loop (ia (kv R) t t2 t3 t4 l (l.length:Int) c c2 c3 c4 c5 c6 β.1.A β.1.B c9 c10 c11 c12) (kv T,0)=some (kv (l.foldl (btS β R) T),(l.length:Int),false):=by
 a p:=f.len
 a key:=bu (step:=ia (kv R) t t2 t3 t4 l (l.length:Int) c c2 c3 c4 c5 c6 β.1.A β.1.B c9 c10 c11 c12) (fun j=>(kv ((l.take j).foldl (btS β R) T),(j:Int))) l.length (e:=(kv (l.foldl (btS β R) T),(l.length:Int),false)) (fun j d=> ?_) ?_
 ·exact key
 ·simp only [ia]
  obtain ⟨m,h,_⟩:=f.ent _ (aZ d)
  a i:=b32 (f.ent _ (aZ d))
  a k:=pW β R (l.take j) T
  a b:atL (kv R) l[j].Row=some (R.getD l[j].Row.toNat 0).1:=by
    a:=wE (l:=R) (j:=l[j].Row.toNat) om
    rwa [eo m.1] at this
  rw [brd om,ck d,obs,brd h.1,brd (by rw [cg,k];omega),a7t om,obs,b,obs,show Ext.mk β.1.A β.1.B=β.1 from rfl,fQ β.2 (aI _),obs,zn (rv _ _) i,obs,
   kW (aI _) (b3r _ _),obs,brd h.1,brd (by rw [cg,k];omega),obs,ak _ om om,a6U, <-DP i,db d,i5]
  show some (Sum.inl ((kv _).set l[j].Col.toNat ((List.foldl (btS β R) T (l.take j)).getD l[j].Col.toNat 0+β*R.getD l[j].Row.toNat 0*kF l[j].Value).1,_))=_
  rw [b68];rfl
 ·simp only [ia]
  rw [brn om,ag om,bk]
end
section
def b7k (out:List K) (p:K):List K:=out.map (fun a=>a*(1-p))++out.map (fun a=>a*p)
def eqK (P:List K):List K:=P.foldl b7k [1]
theorem c4Q (out:List K) (p:K):eqS (kv out) p.1=kv (b7k out p):=by
 simp only [eqS,kv,b7k,cI,jj];rfl
theorem b2E: ∀(P out:List K),(kv P).foldl eqS (kv out)=kv (P.foldl b7k out)
 |[],out=>rfl
 |p::P,out=>by
  show (kv P).foldl eqS (eqS (kv out) p.1)=_
  rw [c4Q,b2E P];rfl
theorem SV (P:List K):eqT (kv P)=kv (eqK P):=b2E P [1]
theorem b79 (P:List K):(eqK P).length=2^P.length:=by
 a:=CX (kv P)
 rw [SV,cg,cg] at this;exact this
variable {kind:Nat} {bh:List K->Source->Source}
end
section
theorem a73 (l:List K) (j:Nat):(kv l).take j=kv (l.take j):=by simp [kv]
theorem a4w: ∀k:Nat,k<=9->1<=2^k/\2^k<=512:=by decide
end
section
abbrev Tx:=List UInt8
def Vn (t:Tx):Tx:=0::t
def Nx (a b:Tx):Tx:=1::(a++b)
def hL (t:Tx):Tx:=H (Vn t)
def hN (a b:Tx):Tx:=H (Nx a b)
theorem b3R {l:List Tx} {k:Nat} (h:k<l.length):atL l (k:Int)=some (l.getD k []):=by simp [atL,h]
theorem Uj {t:Tx} (h:t.length<=1000000):yW t=some (Vn t):=by
 unfold yW;rw [bt (by simp only [ah,ai];omega)];rfl
theorem HJ {a b:Tx} (c:a.length<=1000000) (d:b.length<=1000000):tq a b=some (Nx a b):=by
 unfold tq
 rw [bt (by simp only [ah,ai];omega),bt (by simp only [ab,ah,ai];omega)];rfl
theorem b0T {t:Tx} (h:t.length<=1000000):Be t=some (hL t):=by
 unfold Be
 rw [bt (by simp only [ah,ai];omega),tD (by simp only [ab,ah,ai];omega),obs];rfl
def Hs (l:List Tx):Prop:= ∀x∈l,x.length=32
theorem Hs.getD {l:List Tx} (h:Hs l) {k:Nat} (a:k<l.length):(l.getD k []).length=32:=by simp [a];exact h _ (aZ a)
theorem sr {α:Type} (f:Nat->α) (k:Nat):(List.range (k+1)).map f=(List.range k).map f++[f k]:=by rw [gB,cI];rfl
theorem b2y (i j:Nat):i/2^j/2=i/2^(j+1):=by rw [Nat.div_div_eq_div_mul,fT]
theorem b07 (q:Nat) (h:q<=1000000):IntKind.wrap .i64 ((q:Int)/2)=((q/2:Nat):Int):=by
 rw [ak _ om om];omega
end
section
def o9 (i:Nat) (leaf:Tx) (path:List Tx):Nat->Tx
 |0=>Vn leaf
 |j+1=>if i/2^j%2=1 then Nx (path.getD j []) (H (o9 i leaf path j)) else Nx (H (o9 i leaf path j)) (path.getD j [])
def C9 (i:Nat) (leaf:Tx) (path:List Tx) (j:Nat):List Tx:=(List.range (j+1)).map (o9 i leaf path)
theorem sv (i:Nat) (leaf:Tx) (path:List Tx) (j:Nat):(C9 i leaf path j).length=j+1:=by simp [C9]
theorem a2c {i:Nat} {leaf:Tx} {path:List Tx} {j m:Nat} (h:m<=j):atL (C9 i leaf path j) (m:Int)=some (o9 i leaf path m):=by
 rw [ck (by rw [sv];omega)];simp [C9]
theorem a95 (i j:Nat):IntKind.wrap .i64 (((i/2^j:Nat):Int).tdiv 2)=((i/2^(j+1):Nat):Int)\/1000000<i:=by
 by_cases h:i<=1000000
 ·left
  rw [pV _ _ (Int.natCast_nonneg _),b07 _ (e7 (Nat.div_le_self _ _) h),b2y]
 ·right;omega
theorem a99 {l:List Tx} (h:Hs l):(l.any fun x=> !decide (x.length=32))=false:=by
 rw [sJ];intro x a;simp [h x a]
theorem c2N {path:List Tx} (b:path.length<=1000) (a:Hs path):cw path=some false:=by
 unfold cw di
 rw [xa (step:=cU path (path.length:Int)) (p:=fun x=> !decide (x.length=32)) (f:=BU) om (fun x _=>by unfold BU;rw [zr];rfl) (fun t=>rfl),a99 a]
end
section
theorem c8f: ∀k:Nat,k<=9->Kp ((2^k:Nat):Int)=some (k:Int)
 |0,_=>rfl
 |1,_=>rfl
 |2,_=>rfl
 |3,_=>rfl
 |4,_=>rfl
 |5,_=>rfl
 |6,_=>rfl
 |7,_=>rfl
 |8,_=>rfl
 |9,_=>rfl
theorem c6X {k:Nat} (h:k<=9):Bp ((2^k:Nat):Int)=some (k:Int):=by
 unfold Bp
 a key:Loop (kH ((2^k:Nat):Int)) 0=some ((k:Int),false):=
   bu (step:=kH ((2^k:Nat):Int)) (fun j=>(j:Int)) k (fun j b=>by
    a c:2^j<2^k:=Nat.pow_lt_pow_right om b
    simp only [kH]
    rw [ee _ om om,brd om,D7 om,brd om,ak _ om om];rfl) (by
    simp only [kH]
    rw [ee _ om om,brd om,D7 om,brn om,ag om])
 rw [key];rfl
def fpK (k i:Nat) (a b r:K):K:=(a+b)*kF (iF 2)+r*(a-b)*(kF (iF 2)*kF (iF (pF (Qj k) i)))
theorem NZ (a:Int):okF (iF a):=QQ _ _
theorem c7j:okF 2:=⟨by decide,by decide⟩
theorem V2 {k i:Nat} (a b r:K) (c:k<=9) (hi:i<=1000):o4 ((2^k:Nat):Int) i a.1 b.1 r.1=some (fpK k i a b r).1:=by
 unfold o4
 rw [CT c7j,obs,c8f k c,obs,a8a om,obs,Qa (a3d k) om om,obs,kW a.2 b.2,obs,zn (Vh _ _) (NZ 2),obs,qY a.2 b.2,obs,
  fQ r.2 (yl _ _),obs,CT (QQ _ _),obs,pz (NZ 2) (NZ _),obs,zn (rv _ _) (pH _ _),obs,kW (b3r _ _) (b3r _ _),obs,aK,a6U,a6U, <-DP (NZ 2), <-DP (pH _ _),b6x];rfl
theorem c0w: ∀m:Nat,m<=9-> ∀t:Nat,t<=m->bW .i64 ((2^m:Nat):Int) (t:Int)=((2^(m-t):Nat):Int):=by decide+kernel
theorem c5v (a b:List K):kv (a++b)=kv a++kv b:=by simp [kv]
end
section
theorem a7W {k i:Nat} (a b r:K) (d:k<=9) (hi:i<=1000):oN ((2^k:Nat):Int) i a.1 b.1 r.1=some (fpK k i a b r).1:=by
 unfold oN ma
 rw [c6X d,obs,b03 om,obs,R8 (a3d k) om om,obs,DF c7j,obs,obs,lz a.2 b.2,obs,Lr,obs,fC (Vh _ _) (a75 (NZ 2)),obs,GS a.2 b.2,obs,
  DF (QQ _ _),obs,obs,uX (NZ 2) (NZ _),obs,Lr,obs,fC (yl _ _) (a75 (pH _ _)),obs,fC r.2 (rv _ _),obs,lz (rv _ _) (rv _ _),obs,aK, <-DP (NZ 2), <-DP (pH _ _),b6x]
 c:(a+b)*kF (iF 2)+r*((a-b)*(kF (iF 2)*kF (iF (pF (Qj k) i))))=fpK k i a b r:=by unfold fpK;exact kg
 rw [<-this];rfl
theorem a7Q (k:Nat) (b:k+1<=9):IntKind.wrap .i64 (((2^(k+1):Nat):Int).tdiv 2)=((2^k:Nat):Int):=by
 a c:=a4w (k+1) b
 a d:2^(k+1)=2*2^k:=by rw [fT];omega
 rw [pV _ _ om,ak _ om om];omega
theorem a2f {s:Source} {k:Int} (h:Few s k) (a:k<=999890) {n:Nat} (d:n<=100) {m:Int} (e:1<=m):vN s (n:Int) m=some (drS s n,plM (drL s n) m):=by
 unfold vN
 rw [Mv h a om,obs]
 b:=a2k (l:=drL s n) (m:=m) (c:=s.Script) (c2:=s.At) (c3:=s.State) (c4:=s.Count) (c5:=0) (c6:=[]) (c7:=0) (c8:=(drS s n).Script) (c9:=(drS s n).At) (c10:=(drS s n).State) (c11:=(drS s n).Count) (by rw [oo];omega) (SO h a om) om
 rw [oo] at this
 rw [this,obs]
end
section
def Zd (n:Nat) (p:Nat->Bool):Bool:=(List.range n).all p
theorem vI {n:Nat} {p:Nat->Bool}:Zd n p=true↔ ∀j,j<n->p j=true:=by simp [Zd]
theorem KB {n:Nat} {p:Nat->Bool} (h: ∀j,j<n->p j=true):Zd n p=true:=vI.2 h
theorem b8T {n:Nat} {p:Nat->Bool} {k:Nat} (a:k<n) (h:p k=false):Zd n p=false:=by
 refine Bool.eq_false_iff.2 fun e=> ?_
 rw [vI.1 e k a] at h;cases h
theorem BO {E1 E2 R:Type} {step:Int->Option (Int⊕(E1⊕E2))} (n:Nat) (p:Nat->Bool) (e1:Nat->E1) {e2:E2} {f:E1->Option R} {g:E2->Option R} {x y:R} (h: ∀k,k<n->p k=true->step (k:Int)=some (.inl ((k+1:Nat):Int)))
 (i: ∀k,k<n->p k=false->step (k:Int)=some (.inr (.inl (e1 k)))) (j:step (n:Int)=some (.inr (.inr e2))) (l: ∀e,f e=some x) (m:g e2=some y):
 (Loop step 0).bind (alt f g)=some (if Zd n p=true then y else x):=by
 rcases Cm (step:=step) (fun k=>(k:Int)) n p (fun k=> .inl (e1 k)) h i j with ⟨c,d⟩|⟨k,o,c,_,d⟩
 ·b a:Loop step 0=_:=d
  rw [a,ae (KB c),obs,nu,m]
 ·b a:Loop step 0=_:=d
  rw [a,aa (by rw [b8T o c];decide),obs,kQ,l]
theorem a1X {b:Bool}:(if b=true then true else false)=b:=by cases b<;>rfl
def h32 (x:List UInt8):Bool:=decide (x.length=32)
theorem Mb {l:List (List UInt8)} (a:l.length<=1099511627776):gG l=some (l.all h32):=by
 unfold gG cc cp
 rw [xa (step:=bY l (l.length:Int)) (p:=fun x=> !h32 x) (f:=i0) a (fun x _=>by unfold i0;rw [zr];rfl) (fun t=>rfl),obs,uU]
def v7 (size:Int) (g:List Ext):Bool:=decide ((g.length:Int)=size)&&g.all mY
def Ex (R:List (List Ext)) (many size:Int):Bool:=decide ((R.length:Int)=many)&&R.all (v7 size)
theorem RF {α C:Type} {p:α->Bool} {f:α->C->Option (Bool×C)} {l:List α} {c:C} (q:l.length<=1099511627776) (o: ∀x∈l,f x c=some (p x,c)) {step:Int×C->Option ((Int×C)⊕((Int×C)⊕(Int×Bool×C)))}
 (d: ∀t,step (t,c)=br (decide (t<(l.length:Int))) ((atL l t).bind fun x=>(f x c).bind fun r=>br r.1 (some (.inr (.inl (t,r.2)))) (some (.inl (IntKind.wrap .i64 (t+1),r.2)))) (some (.inr (.inr (t,decide (t<(l.length:Int)),c))))):
 ∃n:Int,Loop step (0,c)=some (if l.any p then .inl (n,c) else .inr (n,false,c))/\0<=n:=by
 b key:=Cm (step:=step) (fun k=>((k:Int),c)) l.length (fun k=> !((l[k]?.map p).getD false)) (fun k=> .inl ((k:Int),c)) (e:= .inr ((l.length:Int),false,c)) (fun k a h=>by
  b i:p l[k]=false:=by simpa [a] using h
  rw [d,brd om,ck a,obs,o _ (aZ a),obs,i,ba,ak _ om om];rfl)
   (fun k a h=>by
    b i:p l[k]=true:=by simpa [a] using h
    rw [d,brd om,ck a,obs,o _ (aZ a),obs,i,cL])
   (by rw [d,brn om,ag om])
 rcases key with ⟨j,m⟩|⟨k,a,j,_,m⟩
 ·exact ⟨(l.length:Int),by rw [a7D (fun k a=>by simpa [a] using j k a)];exact m,by omega⟩
 ·exact ⟨(k:Int),by rw [QI a (by simpa [a] using j)];exact m,by omega⟩
theorem yX {R:List (List Ext)} {many size:Int} (b:R.length<=1099511627776) (d: ∀g∈R,g.length<=1099511627776):nV R many size=some (Ex R many size):=by
 unfold nV Ex
 by_cases h:(R.length:Int)=many
 ·rw [bre h,al h]
  obtain ⟨n,e,i⟩:=RF (c:=size) (p:=fun g=> !v7 size g) (f:=pC) (l:=R) b (fun x j=>by
   unfold pC v7
   by_cases a:(x.length:Int)=size
   ·rw [fj a,Mw (d x j),obs,al a];rfl
   ·rw [brb a,ag a];rfl) (step:=cG R (R.length:Int)) (fun t=>rfl)
  unfold cK cW
  rw [e, <-uU (v7 size)]
  cases (R.any fun g=> !v7 size g)
  ·rfl
  ·simp only [ae,obs,kQ,al (show n>=0 from i)];rfl
 ·rw [kL h,ag h];rfl
def a3H (vars:Int) (t:Setting) (q:Query) (j:Nat):Bool:=decide (((q.Paths.getD j []).length:Int)=vars+t.Rate-1-j)&&(q.Paths.getD j []).all h32
def L5 (vars:Int) (t:Setting) (q:Query):Bool:=decide ((q.Pairs.length:Int)=2*vars)&&(q.Pairs.all mY&&(decide ((q.Paths.length:Int)=vars)&&Zd vars.toNat (a3H vars t q)))
def okO (o:Opening) (vars:Int) (t:Setting):Bool:=decide (1<=vars/\vars<=6)&&(setB t&&(Ex o.Rounds vars 3&&(decide ((o.Roots.length:Int)=vars-1)&&(o.Roots.all h32&&(mY o.Last&&(decide (0<=o.Nonce/\o.Nonce<=65535)&&(decide ((o.Queries.length:Int)=t.Queries)&&o.Queries.all (L5 vars t))))))))
structure SmO (o:Opening):Prop where
 rn:o.Rounds.length<=1099511627776
 rr: ∀g∈o.Rounds,g.length<=1099511627776
 ro:o.Roots.length<=1099511627776
 qn:o.Queries.length<=1099511627776
 qp: ∀q∈o.Queries,q.Pairs.length<=1099511627776
 qt: ∀q∈o.Queries, ∀p∈q.Paths,p.length<=1099511627776
theorem Ji {l:List (List (List UInt8))} {j:Nat} (h:j<l.length):atL l (j:Int)=some (l.getD j []):=by rw [ck h];simp [h]
theorem YO {l:List (List (List UInt8))} {j:Nat} (h:j<l.length):l.getD j []∈l:=by simp [h]
theorem Z7 {q:Query} {vars:Int} {t:Setting} (i:1<=vars/\vars<=6) (e:setB t=true) (b:q.Pairs.length<=1099511627776) (d: ∀p∈q.Paths,p.length<=1099511627776):xR q vars t=some (L5 vars t q):=by
 a m:=wV e
 unfold xR L5
 rw [ak _ om om]
 by_cases c1:(q.Pairs.length:Int)=2*vars
 ·rw [fj c1,al c1,Mw b,obs]
  cases n:q.Pairs.all mY
  ·rfl
  ·rw [aH,ba]
   by_cases c2:(q.Paths.length:Int)=vars
   ·rw [fj c2,al c2]
    a o:vars.toNat=q.Paths.length:=by omega
    a key:=BO (step:=kC vars q.Paths (q.Paths.length:Int) q.Pairs q.Paths t.Rate t.Queries t.Grind) vars.toNat (a3H vars t q) (fun _=>()) (e2:=((vars.toNat:Int),false)) (f:=fun _=>some false) (g:=fun _=>some true) (x:=false) (y:=true) (fun k h b=>by
      a c:=d _ (YO (l:=q.Paths) (j:=k) om)
      simp only [a3H,aD,aC] at b
      simp only [kC]
      rw [brd om,Ji om,obs,ak (vars+t.Rate) om om,ak (vars+t.Rate-1) om om,ak (vars+t.Rate-1-k) om om,fj b.1,Mb c,obs,b.2,aH,ba,ak _ om om];rfl) (fun k h b=>by
      a c:=d _ (YO (l:=q.Paths) (j:=k) om)
      simp only [kC]
      rw [brd om,Ji om,obs,ak (vars+t.Rate) om om,ak (vars+t.Rate-1) om om,ak (vars+t.Rate-1-k) om om]
      by_cases c3:((q.Paths.getD k []).length:Int)=vars+t.Rate-1-k
      ·rw [fj c3,Mb c,obs]
       rw [a3H,al c3,aN] at b
       rw [b];rfl
      ·rw [brb c3]) (by
      simp only [kC]
      rw [brn om,ag om]) (fun _=>rfl) rfl
    rw [a1X] at key
    rw [key];rfl
   ·rw [brb c2,ag c2];rfl
 ·rw [brb c1,ag c1];rfl
theorem PO {o:Opening} {vars:Int} {t:Setting} (S:SmO o):uT o vars t=some (okO o vars t):=by
 unfold uT okO
 rw [H0,obs]
 by_cases a:1<=vars/\vars<=6
 ·rw [al a,al a.1,al a.2,np,cL,yt,obs,aN]
  cases h:setB t
  ·rfl
  ·rw [cL,yX S.rn S.rr,obs,aN]
   cases j:Ex o.Rounds vars 3
   ·rfl
   ·rw [cL,ak _ om om,aN]
    by_cases c1:(o.Roots.length:Int)=vars-1
    ·rw [bre c1,al c1,Mb S.ro,obs,aN]
     cases k:o.Roots.all h32
     ·rfl
     ·rw [cL,tf,obs,aN]
      cases m:mY o.Last
      ·rfl
      ·rw [cL,H0,obs,aN]
       by_cases c2:0<=o.Nonce/\o.Nonce<=65535
       ·rw [al c2,al c2.1,al c2.2,np,cL,aN]
        by_cases c3:(o.Queries.length:Int)=t.Queries
        ·rw [bre c3,al c3,aN]
         obtain ⟨n,e,i⟩:=RF (c:=(vars,t.Rate,t.Queries,t.Grind)) (p:=fun q=> !L5 vars t q) (f:=fun x c=>(dx x c.1 ⟨c.2.1,c.2.2.1,c.2.2.2⟩).bind fun r=>some (r.1,r.2.1,r.2.2.Rate,r.2.2.Queries,r.2.2.Grind)) (l:=o.Queries) S.qn (fun x d=>by
          unfold dx uk
          show ((((xR x vars t).bind _).bind _).bind _)=_
          rw [Z7 a h (S.qp x d) (S.qt x d)];rfl) (step:=bm o.Queries (o.Queries.length:Int)) (fun z=>by
          show bm _ _ (z,vars,t.Rate,t.Queries,t.Grind)=_
          simp only [bm]
          congr 1
          cases atL o.Queries z with
          |none=>rfl
          |some x=>
           simp only [obs]
           cases dx x vars ⟨t.Rate,t.Queries,t.Grind⟩<;>rfl)
         unfold hQ bK bO
         rw [e, <-uU (L5 vars t)]
         cases (o.Queries.any fun q=> !L5 vars t q)
         ·rfl
         ·simp only [ae,obs,kQ,al (show n>=0 from i)]
        ·rw [kL c3,ag c3];rfl
       ·rw [ag c2]
        b:(decide (0<=o.Nonce)&&decide (o.Nonce<=65535))=false:=by
         rw [<-pm];exact ag c2
        rw [this];rfl
    ·rw [kL c1,ag c1];rfl
 ·rw [ag a]
  b:(decide (1<=vars)&&decide (vars<=6))=false:=by
   rw [<-pm];exact ag a
  rw [this];rfl
end
section
theorem Bs {α:Type} (l:List α) (d:α) (P:α->Bool):Zd l.length (fun k=>P (l.getD k d))=l.all P:=by
 refine pn.2 ⟨fun h=>aB.2 fun x c=> ?_,fun h=>KB fun k a=> ?_⟩
 ·obtain ⟨k,a,rfl⟩:=bp c
  b:=vI.1 h k a
  simpa [a] using this
 ·b:=aB.1 h _ (aZ a)
  simpa [a] using this
theorem pP {α:Type} {l:List α} {d:α} {j:Nat} (h:j<l.length):atL l (j:Int)=some (l.getD j d):=by rw [ck h];simp [h]
theorem SS {a f:Int} {c30:List (List Ext)} {c31:List (List UInt8)} {c32 c33 c34:Int} {c35:List Query} {c36 c37 c38:Int} {c39:List Ext} {C:List (List (List UInt8))} {j:Nat} (b:j<C.length) (h:(C.getD j []).length<=1099511627776) {R:Type} {x y:R}:
 (Loop (iK a f (j:Int) c30 c31 c32 c33 c34 c35 c36 c37 c38 c39 C) 0).bind (alt (fun _=>some x) (fun _=>some y))=some (if (C.getD j []).all h32=true then y else x):=by
 rw [<-Bs (C.getD j []) [] h32]
 refine BO (C.getD j []).length _ (fun _=>()) (fun k c e=> ?_) (fun k c e=> ?_) (e2:=(((C.getD j []).length:Int),false)) ?_ (fun _=>rfl) rfl
 ·simp only [iK]
  simp only [h32,aC] at e
  rw [Ji b,obs,brd om,obs,pP (d:=[]) c,obs,fj om,ak _ om om];rfl
 ·simp only [iK]
  simp only [h32,bw] at e
  rw [Ji b,obs,brd om,obs,pP (d:=[]) c,obs,brb om]
 ·simp only [iK]
  rw [Ji b,obs,brn om,ag om]
theorem R0 {vars:Int} {t:Setting} {q:Query} {e:Int} {c19:List (List Ext)} {c20:List (List UInt8)} {c21 c22 c23:Int} {c24:List Query} {c26 c27:Int} {c28:List Ext} (i:1<=vars/\vars<=6) (f:setB t=true) (m:(q.Paths.length:Int)=vars) (d: ∀p∈q.Paths,p.length<=1099511627776) {R:Type} {x y:R}:
 (Loop (iJ vars e c19 c20 c21 c22 c23 c24 t.Rate c26 c27 c28 q.Paths) 0).bind (alt (fun _=>some x) (fun _=>some y))=some (if Zd vars.toNat (a3H vars t q)=true then y else x):=by
 a n:=wV f
 refine BO vars.toNat _ (fun _=>()) (fun k h b=> ?_) (fun k h b=> ?_) (e2:=((vars.toNat:Int),false)) ?_ (fun _=>rfl) rfl
 ·a c:=d _ (YO (l:=q.Paths) (j:=k) om)
  simp only [a3H,aD,aC] at b
  simp only [iJ]
  rw [brd om,Ji om,obs,ak (vars+t.Rate) om om,ak (vars+t.Rate-1) om om,ak (vars+t.Rate-1-k) om om,fj b.1,SS om c,ae b.2,ak _ om om];rfl
 ·a c:=d _ (YO (l:=q.Paths) (j:=k) om)
  simp only [iJ]
  rw [brd om,Ji om,obs,ak (vars+t.Rate) om om,ak (vars+t.Rate-1) om om,ak (vars+t.Rate-1-k) om om]
  by_cases c3:((q.Paths.getD k []).length:Int)=vars+t.Rate-1-k
  ·rw [a3H,al c3,aN] at b
   rw [fj c3,SS om c,aa (by rw [b];decide)]
  ·rw [brb c3]
 ·simp only [iJ]
  rw [brn om,ag om]
theorem Yb {vars:Int} {t:Setting} {o:Opening} {c14 c12 c13:Int} {c10:List (List Ext)} {c11:List (List UInt8)} {c17 c18:Int} (S:SmO o) (f:1<=vars/\vars<=6) (h:setB t=true) {R:Type} {x y:R}:
 (Loop (gV vars c10 c11 c12 c13 c14 o.Queries t.Rate c17 c18) 0).bind (alt (fun _=>some x) (fun _=>some y))=some (if o.Queries.all (L5 vars t)=true then y else x):=by
 rw [<-Bs o.Queries ⟨[],[]⟩ (L5 vars t)]
 b i: ∀k,k<o.Queries.length->o.Queries.getD k ⟨[],[]⟩∈o.Queries:=fun k c=>by simp [c]
 b j:=S.qn
 refine BO o.Queries.length _ (fun k=>((o.Queries.getD k ⟨[],[]⟩).Pairs,(o.Queries.getD k ⟨[],[]⟩).Paths)) (fun k c a=> ?_) (fun k c a=> ?_) (e2:=((o.Queries.length:Int),false)) ?_ (fun _=>rfl) rfl
 ·b e:=i k c
  simp only [L5,aD,aC] at a
  simp only [gV]
  rw [brd om,pP (d:=⟨[],[]⟩) c,obs,ak (2*vars) om om,fj a.1,nS (S.qp _ e),obs,a.2.1,aH,ba,fj a.2.2.1,R0 f h a.2.2.1 (S.qt _ e),ae a.2.2.2,ak _ om om];rfl
 ·b e:=i k c
  simp only [gV]
  rw [brd om,pP (d:=⟨[],[]⟩) c,obs,ak (2*vars) om om]
  rw [L5] at a
  by_cases c1:((o.Queries.getD k ⟨[],[]⟩).Pairs.length:Int)=2*vars
  ·rw [fj c1,nS (S.qp _ e),obs]
   rw [al c1,aN] at a
   cases l:(o.Queries.getD k ⟨[],[]⟩).Pairs.all mY
   ·rfl
   ·rw [aH,ba]
    rw [l,aN] at a
    by_cases c2:((o.Queries.getD k ⟨[],[]⟩).Paths.length:Int)=vars
    ·rw [al c2,aN] at a
     rw [fj c2,R0 f h c2 (S.qt _ e),aa (by rw [a];decide)]
    ·rw [brb c2]
  ·rw [brb c1]
 ·simp only [gV]
  rw [brn om,ag om]
theorem Q0 {o:Opening} {vars:Int} {t:Setting} (S:SmO o):vH o vars t=some (okO o vars t):=by
 unfold vH okO
 rw [La,obs]
 by_cases b:1<=vars/\vars<=6
 ·rw [al b,al b.1,al b.2,np,aH,ba,xY,obs,aN]
  cases n:setB t
  ·rfl
  ·rw [aH,ba,ak _ om om,aN,Ex]
   by_cases j:(o.Rounds.length:Int)=vars
   ·rw [fj j,al j,aN]
    by_cases c1:(o.Roots.length:Int)=vars-1
    ·rw [fj c1,al c1,aN]
     by_cases c3:(o.Queries.length:Int)=t.Queries
     ·rw [fj c3,al c3,aN,QH,obs]
      cases q:mY o.Last
      ·rw [du,cL];cases o.Rounds.all (v7 3)<;>cases o.Roots.all h32<;>rfl
      ·rw [aH,ba,La,obs,aN]
       by_cases c2:0<=o.Nonce/\o.Nonce<=65535
       ·rw [al c2,al c2.1,al c2.2,np,aH,ba,aN]
        a key:=BO (step:=iN vars o.Rounds o.Roots o.Last.A o.Last.B o.Nonce o.Queries t.Rate t.Queries t.Grind) vars.toNat (fun i=>v7 3 (o.Rounds.getD i [])&&(decide (i=0)||h32 (o.Roots.getD (i-1) []))) (fun _=>()) (e2:=((vars.toNat:Int),false)) (f:=fun _=>some false)
          (g:=fun _=>(Loop (gV vars o.Rounds o.Roots o.Last.A o.Last.B o.Nonce o.Queries t.Rate t.Queries t.Grind) 0).bind (alt (fun e_11=>some false) (fun e_12=>some true))) (x:=false) (y:=o.Queries.all (L5 vars t)) (fun k l c=>by
          simp only [aD,da,v7,h32,aC] at c
          a m:=S.rr _ (show o.Rounds.getD k []∈o.Rounds by simp [show k<o.Rounds.length by omega])
          simp only [iN]
          rw [brd om,pP (d:=[]) om,obs,fj c.1.1,obs,nS m,obs,c.1.2,aH,ba,ak ((k:Int)+1) om om]
          by_cases h0:k=0
          ·rw [brn om];rfl
          ·rw [brd om,ak _ om om,show (k:Int)-1=((k-1:Nat):Int) by omega,pP (d:=[]) om,obs,fj (by a:=c.2.resolve_left h0;omega)];rfl) (fun k l c=>by
          a m:=S.rr _ (show o.Rounds.getD k []∈o.Rounds by simp [show k<o.Rounds.length by omega])
          simp only [iN]
          rw [brd om,pP (d:=[]) om,obs]
          by_cases c4:((o.Rounds.getD k []).length:Int)=3
          ·rw [fj c4,obs,nS m,obs]
           cases p:(o.Rounds.getD k []).all mY
           ·rfl
           ·rw [v7,al c4,p,aN,aN,Bool.or_eq_false_iff,bw,h32,bw] at c
            rw [aH,ba,brd om,ak _ om om,show (k:Int)-1=((k-1:Nat):Int) by omega,pP (d:=[]) om,obs,brb om]
          ·rw [brb c4]) (by
          simp only [iN]
          rw [brn om,ag om]) (fun _=>rfl) (by rw [Yb S b n,a1X])
        rw [key]
        a e:Zd vars.toNat (fun i=>v7 3 (o.Rounds.getD i [])&&(decide (i=0)||h32 (o.Roots.getD (i-1) [])))=(o.Rounds.all (v7 3)&&o.Roots.all h32):=by
          rw [<-Bs o.Rounds [], <-Bs o.Roots []]
          refine pn.2 ⟨fun h=> ?_,fun h=> ?_⟩
          ·rw [aD]
           refine ⟨KB fun k l=> ?_,KB fun k l=> ?_⟩
           ·a:=vI.1 h k om
            simp only [aD] at this;exact this.1
           ·a:=vI.1 h (k+1) om
            simpa using (aD _ _▸this).2
          ·rw [aD] at h
           refine KB fun k l=> ?_
           rw [aD]
           refine ⟨vI.1 h.1 k om, ?_⟩
           by_cases h0:k=0
           ·simp [h0]
           ·a:=vI.1 h.2 (k-1) om
            simp only [da];exact .inr this
        rw [e]
        cases o.Rounds.all (v7 3)<;>cases o.Roots.all h32<;>simp
       ·a:(decide (0<=o.Nonce)&&decide (o.Nonce<=65535))=false:=by
         rw [<-pm];exact ag c2
        rw [ag c2,this,du,cL]
        cases o.Rounds.all (v7 3)<;>cases o.Roots.all h32<;>rfl
     ·rw [brb c3,ag c3]
      cases o.Rounds.all (v7 3)<;>cases o.Roots.all h32<;>cases mY o.Last<;>cases decide (0<=o.Nonce/\o.Nonce<=65535)<;>rfl
    ·rw [brb c1,ag c1];cases o.Rounds.all (v7 3)<;>rfl
   ·rw [brb j,ag j];rfl
 ·rw [ag b]
  a:(decide (1<=vars)&&decide (vars<=6))=false:=by
   rw [<-pm];exact ag b
  rw [this];rfl
end
section
end
section
end
section
variable {kind:Nat}
theorem Vi {c7 c8 c9 c11:Int} {c10:List UInt8} (l:kind=1\/kind=2): ∀(R pre:List (List K)) (c:K) (s:Source) (k:Int) (P:List Ext),Few s k->k+3*R.length<=999990->P.length+R.length<=999990->pre.length+R.length<=999990->
 ((vfM kind bv0 R pre.length c s).1=0->Loop (dY (kind:Int) (kvv (pre++R)) ((pre++R).length:Int) c7 c8 c9 c10 c11) (P,(pre.length:Int),c.1.A,c.1.B,s.Script,s.At,s.State,s.Count)=
   some (.inr (.inr (P++kv (vfM kind bv0 R pre.length c s).2.1,((pre++R).length:Int),false,(vfM kind bv0 R pre.length c s).2.2.1.1.A,(vfM kind bv0 R pre.length c s).2.2.1.1.B,(vfM kind bv0 R pre.length c s).2.2.2.Script,(vfM kind bv0 R pre.length c s).2.2.2.At,(vfM kind bv0 R pre.length c s).2.2.2.State,(vfM kind bv0 R pre.length c s).2.2.2.Count))))/\
 ((vfM kind bv0 R pre.length c s).1≠0->((vfM kind bv0 R pre.length c s).1=18/\ ∃P' A B C D E F S0 S1 S2 S3,Loop (dY (kind:Int) (kvv (pre++R)) ((pre++R).length:Int) c7 c8 c9 c10 c11) (P,(pre.length:Int),c.1.A,c.1.B,s.Script,s.At,s.State,s.Count)=
   some (.inl (P',[],A,B,C,D,E,F,S0,S1,S2,S3))/\Source.mk S0 S1 S2 S3=(vfM kind bv0 R pre.length c s).2.2.2)\/
   ((vfM kind bv0 R pre.length c s).1=10/\ ∃P' A B C D E F S0 S1 S2 S3,Loop (dY (kind:Int) (kvv (pre++R)) ((pre++R).length:Int) c7 c8 c9 c10 c11) (P,(pre.length:Int),c.1.A,c.1.B,s.Script,s.At,s.State,s.Count)=
   some (.inr (.inl (P',[],A,B,C,D,E,F,S0,S1,S2,S3)))/\Source.mk S0 S1 S2 S3=(vfM kind bv0 R pre.length c s).2.2.2))
 |[],pre,c,s,k,P,d,o,p,r=>by
  refine ⟨fun _=>bX ?_,fun h=>absurd rfl h⟩
  simp only [dY,bV]
  rw [brn om,ag om]
  simp [vfM,kv]
 |g::R,pre,c,s,k,P,d,o,p,r=>by
  rw [ah] at o p r
  a hat:atL (kvv (pre++g::R)) (pre.length:Int)=some (kv g):=by rw [Xe (by simp)];simp
  a b:(pre.length:Int)<((pre++g::R).length:Int):=by rw [ab,ah];omega
  a m:vY (kind:Int)=some ((kind+1:Nat):Int):=by unfold vY;rw [ak _ om om];rfl
  rw [vfM]
  by_cases n:g.length=kind+2
  ·by_cases f:g.getD 0 0+g.getD 1 0=c
   ·rw [ae n,ae f]
    a ih:=Vi (c7:=c7) (c8:=c8) (c9:=c9) (c10:=c10) (c11:=c11) l R (pre++[g]) (lnK g (rdM s g)) (nsM s g) (k+2) (P++[(rdM s g).1]) (JQ d om g) om (by rw [ab,am];omega) (by rw [ab,am];omega)
    rw [aV,aU,ab,am] at ih
    a step:dY (kind:Int) (kvv (pre++g::R)) ((pre++g::R).length:Int) c7 c8 c9 c10 c11 (P,(pre.length:Int),c.1.A,c.1.B,s.Script,s.At,s.State,s.Count)=
     some (.inl (P++[(rdM s g).1],((pre.length+1:Nat):Int),(lnK g (rdM s g)).1.A,(lnK g (rdM s g)).1.B,(nsM s g).Script,(nsM s g).At,(nsM s g).State,(nsM s g).Count)):=by
      simp only [dY]
      rw [brd b,hat,obs,m,obs,ak _ om om,fj (by rw [cg];omega),atK (i:=0) (j:=0) rfl om,obs,atK (i:=1) (j:=1) rfl om,obs,lz (aI _) (aI _),obs]
      rw [show eA (g.getD 0 0).1 (g.getD 1 0).1=c.1 from congrArg Subtype.val f,bre rfl,bre rfl,show Source.mk s.Script s.At s.State s.Count=s from rfl,Rw d.1 om,obs,c1Y d,obs]
      dsimp only
      rw [VF _ om,obs,bt (by rw [ab,am];omega),ak _ om om];rfl
    refine ⟨fun h=> ?_,fun h=> ?_⟩
    ·rw [cf step,ih.1 h]
     simp [kv,bv0]
    ·rcases ih.2 h with ⟨q,P',A,B,C,D,E,F,S0,S1,S2,S3,e,e2⟩|⟨q,P',A,B,C,D,E,F,S0,S1,S2,S3,e,e2⟩
     ·exact .inl ⟨q,P',A,B,C,D,E,F,S0,S1,S2,S3,by rw [cf step,e],e2⟩
     ·exact .inr ⟨q,P',A,B,C,D,E,F,S0,S1,S2,S3,by rw [cf step,e],e2⟩
   ·rw [ae n,aa f]
    refine ⟨fun h=>absurd (show (10:Int)=0 from h) (by decide),fun _=> .inr ⟨rfl,P,c.1.A,c.1.B,s.Script,s.At,s.State,s.Count,s.Script,s.At,s.State,s.Count,bX ?_,rfl⟩⟩
    simp only [dY]
    rw [brd b,hat,obs,m,obs,ak _ om om,fj (by rw [cg];omega),atK (i:=0) (j:=0) rfl om,obs,atK (i:=1) (j:=1) rfl om,obs,lz (aI _) (aI _),obs]
    rw [show eA (g.getD 0 0).1 (g.getD 1 0).1=(g.getD 0 0+g.getD 1 0).1 from rfl,Hu,aa f]
  ·rw [aa n]
   refine ⟨fun h=>absurd (show (18:Int)=0 from h) (by decide),fun _=> .inl ⟨rfl,P,c.1.A,c.1.B,s.Script,s.At,s.State,s.Count,s.Script,s.At,s.State,s.Count,bX ?_,rfl⟩⟩
   simp only [dY]
   rw [brd b,hat,obs,m,obs,ak _ om om,brb (by rw [cg];omega)]
theorem NA (b:kind=1\/kind=2) {R:List (List K)} {c:K} {s:Source} {k:Int} (d:Few s k) (f:k+3*R.length<=999990):
 lX (kind:Int) c.1 (kvv R) (R.length:Int) s=some (if (vfM kind bv0 R 0 c s).1=0 then (kv (vfM kind bv0 R 0 c s).2.1,(vfM kind bv0 R 0 c s).2.2.1.1,(vfM kind bv0 R 0 c s).2.2.2,0) else ([],e0,(vfM kind bv0 R 0 c s).2.2.2,(vfM kind bv0 R 0 c s).1)):=by
 a i:0<=k:=by a:=d.2;a:=d.1.4;omega
 a h:=Vi (c7:=0) (c8:=0) (c9:=0) (c10:=[]) (c11:=0) b R [] c s k [] d f (by rw [ai];omega) (by rw [ai];omega)
 rw [bg,ai] at h
 unfold lX
 rw [Zp,fj rfl]
 by_cases h0:(vfM kind bv0 R 0 c s).1=0
 ·rw [ae h0]
  a:=h.1 h0
  rw [show (((0:Nat):Int))=0 from rfl] at this
  rw [this];rfl
 ·rw [aa h0]
  rcases h.2 h0 with ⟨q,P',A,B,C,D,E,F,S0,S1,S2,S3,e,e2⟩|⟨q,P',A,B,C,D,E,F,S0,S1,S2,S3,e,e2⟩
  ·rw [show (((0:Nat):Int))=0 from rfl] at e
   rw [e,q, <-e2];rfl
  ·rw [show (((0:Nat):Int))=0 from rfl] at e
   rw [e,q, <-e2];rfl
end
section
variable {v ρ:Nat} {t P:List K} {s:Source} {k:Int}
end
section
end
section
def eaK:List K->List K->K->K
 |x::A,b::B,c=>eaK A B (c*(x*b+(1-x)*(1-b)))
 |_,_,c=>c
def wy (a b:K):List UInt8:=[a.1,b.1].flatMap e8
def a8U (due:Option K) (x:K):Prop:= ∃d,due=some d/\x≠d
noncomputable instance c5h (due:Option K) (x:K):Decidable (a8U due x):=Classical.propDecidable _
noncomputable def qcK (l:K):Nat->List (List UInt8)->List K->List (List (List UInt8))->List K->Nat->Option K->Int
 |m,rt::rts,a::b::prs,p::pths,r::P,k,due=>
  if (H (o9 (k%2^(m-1)) (wy a b) p (m-1))==rt)=false then 9
  else if a8U due (if 2^(m-1)<=k then b else a) then 12
  else qcK l (m-1) rts prs pths P (k%2^(m-1)) (some (fpK m (k%2^(m-1)) a b r))
 |_,_,_,_,_,_,due=>if due=some l then 0 else 13
noncomputable def qsC (l:K) (m:Nat) (rts:List (List UInt8)) (D:List K):List Int->List Query->Int
 |p::ps,q::qs=>if qcK l m rts (q.Pairs.map toK) q.Paths D p.toNat none=0 then qsC l m rts D ps qs else qcK l m rts (q.Pairs.map toK) q.Paths D p.toNat none
 |_,_=>0
def bvO (v:Nat) (rts:List (List UInt8)) (j:Nat) (s:Source):Source:=if j+1<v then tkM s (rts.getD j []) else s
theorem X9 (v:Nat) (rts:List (List UInt8)):c51 (bvO v rts):=fun j s k h a=>by
 unfold bvO;split
 ·exact h.take _
 ·exact h.mono om
noncomputable def chC (m bits nq:Nat) (root:List UInt8) (P:List K) (rts:List (List UInt8)) (l:K) (nonce:Int) (qs:List Query) (q:Int×List K×K×Source):Int:=
 if q.1=0 then
  if l*eaK q.2.1 P 1=q.2.2.1 then
   if Rq (rsM q.2.2.2 [l]).State bits nonce=true then qsC l m (root::rts) q.2.1 (plM (drL (tkM (rsM q.2.2.2 [l]) (ic nonce)) nq) ((2^(m-1):Nat):Int)) qs
   else 14
  else 11
 else q.1
def chS (nq:Nat) (l:K) (nonce:Int) (q:Int×List K×K×Source):Source:=drS (tkM (rsM q.2.2.2 [l]) (ic nonce)) nq
variable {v ρ:Nat} {t P:List K} {s:Source} {k:Int}
end
section
theorem c8E: ∀i:Nat,i<512-> ∀j:Nat,j<9->(cM .i64 (bW .i64 (i:Int) (j:Int)) 1==1)=decide (i/2^j%2=1):=by decide+kernel
theorem c4i {i k:Nat} {leaf:Tx} {path:List Tx} (hi:i<512) (m:k<=9) (n:leaf.length<=1000) (d:path.length=k) (b:Hs path):KV i leaf path=some (C9 i leaf path k):=by
 unfold KV
 rw [Uj om,obs,d]
 a key:Loop (nD i path k) ([Vn leaf],0)=some (C9 i leaf path k,(k:Int),false):=by
   refine bu (step:=nD i path k) (fun j=>(C9 i leaf path j,(j:Int))) k (fun j o=> ?_) ?_
   ·a p:=b.getD (k:=j) om
    a q:=Ef (o9 i leaf path j)
    simp only [nD]
    a e:=a2c (i:=i) (leaf:=leaf) (path:=path) (aw j)
    rw [ck (by rw [sv];omega),Option.some.injEq] at e
    a e2:(C9 i leaf path j)[(j:Int).toNat]? =some (o9 i leaf path j):=by
      rw [aK,v8 (by rw [sv];omega),e]
    a f:(o9 i leaf path j).length<=100000000:=by
      cases j with
      |zero=>simp only [o9,Vn,ah];omega
      |succ j=>
       a h:=b.getD (k:=j) om
       a l:=Ef (o9 i leaf path j)
       simp only [o9]
       split<;>simp only [Nx,ah,ab]<;>omega
    rw [brd om,b3R om,obs,brd om,brd (by rw [sv];omega),e2,obs,NW f,obs,brd om,c8E i hi j om]
    by_cases c:i/2^j%2=1
    ·rw [brd c,HJ om om,obs,bt (by simp only [ab,sv,am];omega),ak _ om om,C9,C9,sr _ (j+1)]
     simp only [o9,ae c];rfl
    ·rw [brn c,HJ om om,obs,bt (by simp only [ab,sv,am];omega),ak _ om om,C9,C9,sr _ (j+1)]
     simp only [o9,aa c];rfl
   ·simp only [nD]
    rw [brn om,ag om]
 rw [key];rfl
theorem up9 {i k:Nat} {leaf:Tx} {path:List Tx} (hi:i<512) (h:k<=9) (l:leaf.length<=1000) (m:path.length=k) (b:Hs path):L1 i leaf path=some (C9 i leaf path k,H (o9 i leaf path k)):=by
 unfold L1
 rw [bt (by simp only [am];omega),b0T om,obs]
 a key:Loop (o3 path) ([[0]++leaf],(i:Int),hL leaf,0)=some (C9 i leaf path k,((i/2^k:Nat):Int),H (o9 i leaf path k),(k:Int),false):=by
   a key:=bu (step:=o3 path) (fun j=>(C9 i leaf path j,((i/2^j:Nat):Int),H (o9 i leaf path j),(j:Int))) k (e:=(C9 i leaf path k,((i/2^k:Nat):Int),H (o9 i leaf path k),(k:Int),false)) (fun j n=> ?_) ?_
   ·a e0:i/2^0=i:=by simp
    rw [e0] at key
    exact key
   ·a o:=b.getD (k:=j) om
    a p:=Ef (o9 i leaf path j)
    a d:IntKind.wrap .i64 (((i/2^j:Nat):Int).tdiv 2)=((i/2^(j+1):Nat):Int):=(a95 i j).resolve_right om
    a f:(((i/2^j:Nat):Int).tmod 2==1)=decide (i/2^j%2=1):=by
      rw [ej _ _ (Int.natCast_nonneg _)]
      generalize i/2^j=q
      by_cases c:q%2=1
      ·rw [al c];simp;omega
      ·rw [ag c];simp;omega
    simp only [o3]
    rw [brd om,bt (by simp only [am];omega),b3R om,obs,bt (by simp only [ab,am];omega),f,d]
    by_cases c:i/2^j%2=1
    ·rw [brd c,obs,bt (by simp only [am];omega),bt (by simp only [ab,am];omega),bt (by simp only [ab,sv,am];omega),
      tD (by simp only [ab,am];omega),obs,ak _ om om,C9,C9,sr _ (j+1)]
     simp only [o9,ae c,Nx,aU,eH,bg,lm]
    ·rw [brn c,bt (by simp only [ab,sv,am];omega),
      tD (by simp only [ab,am];omega),obs,ak _ om om,C9,C9,sr _ (j+1)]
     simp only [o9,aa c,Nx,aU,eH,bg,lm]
   ·simp only [o3]
    rw [brn om,ag om]
 rw [key];rfl
theorem c4R {root:Tx} {i k:Nat} {leaf:Tx} {path:List Tx} (hi:i<512) (c:k<=9) (l:leaf.length<=64) (d:path.length=k) (b:Hs path):H6 root ((2^k:Nat):Int) i leaf path=some (H (o9 i leaf path k)==root):=by
 unfold H6
 a e:(o9 i leaf path k).length<=100000000:=by
   cases k with
   |zero=>simp only [o9,Vn,ah];omega
   |succ j=>
    a f:=b.getD (k:=j) om
    a h:=Ef (o9 i leaf path j)
    simp only [o9]
    split<;>simp only [Nx,ah,ab]<;>omega
 rw [brn om,c8f k c,obs,fj om,c2N om b,obs,ba,c4i hi c om d b,obs,sv,ak _ om om,show (((k+1:Nat):Int))-1=(k:Int) by omega,a2c (aw k),obs,NW e];rfl
theorem Ta: ∀k:Nat,k<=9->bC .i64 1 (k:Int)=((2^k:Nat):Int):=by decide+kernel
theorem c3K {root:Tx} {i k:Nat} {leaf:Tx} {path:List Tx} (hi:i<512) (b:k<=9) (f:leaf.length<=64) (c:path.length=k) (d:Hs path):tp root ((2^k:Nat):Int) i leaf path=some (H (o9 i leaf path k)==root):=by
 unfold tp
 a e:mn 20 (path.length:Int)=(k:Int):=by rw [c];simp only [mn];omega
 rw [brn om,e,ee _ om om,brd om,Ta k b,fj rfl]
 a key:Loop (jF root i leaf path) 0=some (.inr ((path.length:Int),false)):=
   bu (step:=jF root i leaf path) (fun j=>(j:Int)) path.length (fun j h=>by
    a l:=d.getD (k:=j) om
    simp only [jF]
    rw [brd om,b3R om,obs,fj om,ak _ om om];rfl) (by
    simp only [jF]
    rw [brn om,ag om])
 rw [key,obs,nu,up9 hi b om c d];rfl
end
section
end
section
end
section
variable {v ρ:Nat} {t P:List K} {s:Source} {k:Int}
end
section
def QSh:Nat->List (List UInt8)->List K->List (List (List UInt8))->List K->Prop
 |_,[],[],[],[]=>True
 |m,_::rts,_::_::prs,p::pths,_::D=>1<=m/\p.length=m-1/\Hs p/\QSh (m-1) rts prs pths D
 |_,_,_,_,_=>False
def Cb:Option K->Ext
 |none=>e0
 |some d=>d.1
theorem mX {α:Type} {pre l:List α} {x:α} {i:Int} (h:i=(pre.length:Int)):atL (pre++x::l) i=some x:=by subst h;rw [ck (by simp)];simp
theorem AR (pre l:List K):kv (pre++l)=kv pre++kv l:=c5v pre l
theorem VR {l:K} {V:Int} {c:List (List Ext)} {c2:List (List UInt8)} {c3 c4 c5:Int} {c6:List Query}: ∀(rts:List (List UInt8)) (prs:List K) (pths:List (List (List UInt8))) (D:List K) (m:Nat) (preR:List (List UInt8)) (preP:List K) (preT:List (List (List UInt8))) (preD:List K) (k:Nat) (due:Option K),
 QSh m rts prs pths D->m<=9->preP.length=2*preR.length->preT.length=preR.length->preD.length=preR.length->V=((preR.length+rts.length:Nat):Int)->preR.length+rts.length<=100->k<2^9->(due=none↔preR.length=0)->(rts=[]->due≠none)->
 (Loop (ju (preR++rts) V (kv (preD++D)) c c2 c3 c4 c5 c6 (kv (preP++prs)) (preT++pths)) (((2^m:Nat):Int),(k:Int),(preR.length:Int),(Cb due).A,(Cb due).B)).bind (alt (fun e_2=>some e_2.1) (fun e_3=>br (e_3.2.2.2.2.1==l.1.A) (br (e_3.2.2.2.2.2==l.1.B) (some 0) (some 13)) (some 13)))=
  some (qcK l m rts prs pths D k due)
 |[],prs,pths,D,m,preR,preP,preT,preD,k,due,h,v,h1,h2,h3,t,hb,hk,w,hn=>by
  match prs,pths,D,h with
  |[],[],[],_=>
   cases due with
   |none=>exact absurd rfl (hn rfl)
   |some d=>
    rw [bX (e:= .inr (((2^m:Nat):Int),(k:Int),(preR.length:Int),false,d.1.A,d.1.B)) (by
     simp only [ju,Cb]
     rw [brn (by rw [t,ai];omega),ag (by rw [t,ai];omega)])]
    rw [obs,nu]
    dsimp only
    rw [Hu]
    show _=some (if some d=some l then (0:Int) else 13)
    by_cases e:d=l
    ·rw [ae e,ae (by rw [e])]
    ·rw [aa e,aa (fun h=>e (cY h))]
 |rt::rts,prs,pths,D,m,preR,preP,preT,preD,k,due,h,v,h1,h2,h3,t,hb,hk,w,hn=>by
  match prs,pths,D,h with
  |a::b::prs,p::pths,r::D,⟨hm1,hpl,y,hq⟩=>
   obtain ⟨q,rfl⟩: ∃q,m=q+1:=⟨m-1,by omega⟩
   rw [ah] at t hb
   f hp:=a4w (q+1) v
   f hs:2^(q+1)=2*2^q:=by rw [fT];omega
   f hh:=a7Q q v
   f hat:k%2^q<2^q:=gq _ om
   f u:(k:Int).tmod ((2^q:Nat):Int)=((k%2^q:Nat):Int):=by rw [ej _ _ om];omega
   f z:k%2^q<2^9:=bP hat om
   f s:tp rt ((2^q:Nat):Int) ((k%2^q:Nat):Int) (wy a b) p=some (H (o9 (k%2^q) (wy a b) p q)==rt):=c3K om om (by rw [wy,Pc];simp) om y
   f ih:=VR (l:=l) (V:=V) (c:=c) (c2:=c2) (c3:=c3) (c4:=c4) (c5:=c5) (c6:=c6) rts prs pths D q (preR++[rt]) (preP++[a,b]) (preT++[p]) (preD++[r]) (k%2^q) (some (fpK (q+1) (k%2^q) a b r)) hq om
     (by simp only [ab,ah,ai];omega) (by simp only [ab,ah,ai];omega) (by simp only [ab,ah,ai];omega) (by rw [t];simp only [ab,ah,ai];omega) (by simp only [ab,ah,ai];omega) z (by simp) (by simp)
   simp only [aV,aU,eH,bg,ab,am] at ih
   f hR:atL (preR++rt::rts) (preR.length:Int)=some rt:=mX rfl
   f hT:atL (preT++p::pths) (preR.length:Int)=some p:=mX om
   f hD:atL (kv (preD++r::D)) (preR.length:Int)=some r.1:=by rw [AR];exact mX (by rw [cg];omega)
   f hA:atL (kv (preP++a::b::prs)) (2*(preR.length:Int))=some a.1:=by rw [AR];exact mX (by rw [cg];omega)
   f hB:atL (kv (preP++a::b::prs)) (2*(preR.length:Int)+1)=some b.1:=by
     rw [show preP++a::b::prs=(preP++[a])++b::prs by simp,AR];exact mX (by rw [cg,ab,am];omega)
   f j:ju (preR++rt::rts) V (kv (preD++r::D)) c c2 c3 c4 c5 c6 (kv (preP++a::b::prs)) (preT++p::pths) (((2^(q+1):Nat):Int),(k:Int),(preR.length:Int),(Cb due).A,(Cb due).B)=
      if (H (o9 (k%2^q) (wy a b) p q)==rt)=false then some (.inr (.inl (9,(Cb due).A,(Cb due).B,a.1.A,a.1.B,b.1.A,b.1.B)))
      else if a8U due (if 2^q<=k then b else a) then some (.inr (.inl (12,(Cb due).A,(Cb due).B,a.1.A,a.1.B,b.1.A,b.1.B)))
      else some (.inl (((2^q:Nat):Int),((k%2^q:Nat):Int),((preR.length+1:Nat):Int),(fpK (q+1) (k%2^q) a b r).1.A,(fpK (q+1) (k%2^q) a b r).1.B)):=by
     simp only [ju,hh]
     rw [brd om,brd om,ak (2*(preR.length:Int)) om om,hA,obs,ak (2*(preR.length:Int)+1) om om,hB,obs,hR,obs,Sq (by simp),obs,hT,obs,u,show ([a.1,b.1]:List Ext).flatMap e8=wy a b from rfl,s,obs]
     cases hc:(H (o9 (k%2^q) (wy a b) p q)==rt) with
     |false=>rw [ae rfl,du,cL]
     |true=>
      rw [aa (by simp),aH,ba]
      f n:=a7W (k:=q+1) (i:=k%2^q) a b r v om
      cases due with
      |none=>
       rw [brn (by f:=w.1 rfl;omega),hD,obs,n,obs,ak _ om om,aa (by rintro ⟨d,h,_⟩;cases h)];rfl
      |some d=>
       rw [brd (by f:preR.length≠0:=fun e=>by cases w.2 e
                   omega)]
       by_cases hlow:k<2^q
       ·f o:(if 2^q<=k then b else a)=a:=aa om
        rw [o,brd om,al (show (k:Int)<((2^q:Nat):Int) by omega)]
        show br (a.1.A==d.1.A) (br (a.1.B==d.1.B) _ _) _=_
        rw [Hu]
        by_cases e:a=d
        ·rw [ae e,aa (by rintro ⟨x,h,h'⟩;cases h;exact h' e),hD,obs,n,obs,ak _ om om];rfl
        ·rw [aa e,ae ⟨d,rfl,e⟩]
       ·f o:(if 2^q<=k then b else a)=b:=ae om
        rw [o,brn om,ag (show ¬(k:Int)<((2^q:Nat):Int) by omega)]
        show br (b.1.A==d.1.A) (br (b.1.B==d.1.B) _ _) _=_
        rw [Hu]
        by_cases e:b=d
        ·rw [ae e,aa (by rintro ⟨x,h,h'⟩;cases h;exact h' e),hD,obs,n,obs,ak _ om om];rfl
        ·rw [aa e,ae ⟨d,rfl,e⟩]
   rw [qcK,j8]
   by_cases hc:(H (o9 (k%2^q) (wy a b) p q)==rt)=false
   ·rw [ae hc] at j ⊢
    rw [bX j,obs,kQ]
   ·rw [aa hc] at j ⊢
    by_cases ho:a8U due (if 2^q<=k then b else a)
    ·rw [ae ho] at j ⊢
     rw [bX j,obs,kQ]
    ·rw [aa ho] at j ⊢
     rw [cf j];exact ih
theorem VT {l:K} {M:Nat} {V:Int} {c:List (List Ext)} {c2:List (List UInt8)} {c3 c4 c5:Int} {c6:List Query}: ∀(rts:List (List UInt8)) (prs:List K) (pths:List (List (List UInt8))) (D:List K) (m:Nat) (preR:List (List UInt8)) (preP:List K) (preT:List (List (List UInt8))) (preD:List K) (k:Nat) (due:Option K),
 QSh m rts prs pths D->M<=9->m+preR.length=M->preP.length=2*preR.length->preT.length=preR.length->preD.length=preR.length->V=((preR.length+rts.length:Nat):Int)->preR.length+rts.length<=100->k<2^9->(due=none↔preR.length=0)->(rts=[]->due≠none)->
 (Loop (eZ (kv (preD++D)) ((2^M:Nat):Int) (preR++rts) V c c2 c3 c4 c5 c6 (kv (preP++prs)) (preT++pths)) ((k:Int),(preR.length:Int),(Cb due).A,(Cb due).B)).bind (alt (fun e_2=>some 9) (alt (fun e_3=>some 12) (fun e_4=>br (e_4.2.2.2.1==l.1.A) (br (e_4.2.2.2.2==l.1.B) (some 0) (some 13)) (some 13))))=
  some (qcK l m rts prs pths D k due)
 |[],prs,pths,D,m,preR,preP,preT,preD,k,due,h,hM,hm,h1,h2,h3,u,hb,hk,v,hn=>by
  match prs,pths,D,h with
  |[],[],[],_=>
   cases due with
   |none=>exact absurd rfl (hn rfl)
   |some d=>
    rw [bX (e:= .inr (.inr ((k:Int),(preR.length:Int),false,d.1.A,d.1.B))) (by
     simp only [eZ,Cb]
     rw [brn (by rw [u,ai];omega),ag (by rw [u,ai];omega)])]
    rw [obs,nu,nu]
    dsimp only
    rw [Hu]
    show _=some (if some d=some l then (0:Int) else 13)
    by_cases e:d=l
    ·rw [ae e,ae (by rw [e])]
    ·rw [aa e,aa (fun h=>e (cY h))]
 |rt::rts,prs,pths,D,m,preR,preP,preT,preD,k,due,h,hM,hm,h1,h2,h3,u,hb,hk,v,hn=>by
  match prs,pths,D,h with
  |a::b::prs,p::pths,r::D,⟨hm1,hpl,hph,hq⟩=>
   obtain ⟨q,rfl⟩: ∃q,m=q+1:=⟨m-1,by omega⟩
   rw [ah] at u hb
   f hp:=a4w (q+1) om
   f hs:2^(q+1)=2*2^q:=by rw [fT];omega
   f hsh:bW .i64 ((2^M:Nat):Int) (preR.length:Int)=((2^(q+1):Nat):Int):=by rw [c0w M hM preR.length om,show M-preR.length=q+1 by omega]
   f hh:=a7Q q om
   f hat:k%2^q<2^q:=gq _ om
   f w:(k:Int).tmod ((2^q:Nat):Int)=((k%2^q:Nat):Int):=by rw [ej _ _ om];omega
   f hk2:k%2^q<2^9:=bP hat om
   f o:H6 rt ((2^q:Nat):Int) ((k%2^q:Nat):Int) (wy a b) p=some (H (o9 (k%2^q) (wy a b) p q)==rt):=c4R om om (by rw [wy,Pc];simp) om hph
   f ih:=VT (l:=l) (M:=M) (V:=V) (c:=c) (c2:=c2) (c3:=c3) (c4:=c4) (c5:=c5) (c6:=c6) rts prs pths D q (preR++[rt]) (preP++[a,b]) (preT++[p]) (preD++[r]) (k%2^q) (some (fpK (q+1) (k%2^q) a b r)) hq hM
     (by simp only [ab,ah,ai];omega) (by simp only [ab,ah,ai];omega) (by simp only [ab,ah,ai];omega) (by simp only [ab,ah,ai];omega) (by rw [u];simp only [ab,ah,ai];omega) (by simp only [ab,ah,ai];omega) hk2 (by simp) (by simp)
   simp only [aV,aU,eH,bg,ab,am] at ih
   f hR:atL (preR++rt::rts) (preR.length:Int)=some rt:=mX rfl
   f hT:atL (preT++p::pths) (preR.length:Int)=some p:=mX om
   f z:atL (kv (preD++r::D)) (preR.length:Int)=some r.1:=by rw [AR];exact mX (by rw [cg];omega)
   f hA:atL (kv (preP++a::b::prs)) (2*(preR.length:Int))=some a.1:=by rw [AR];exact mX (by rw [cg];omega)
   f hB:atL (kv (preP++a::b::prs)) (2*(preR.length:Int)+1)=some b.1:=by
     rw [show preP++a::b::prs=(preP++[a])++b::prs by simp,AR];exact mX (by rw [cg,ab,am];omega)
   f s:(H (o9 (k%2^q) (wy a b) p q)==rt)=false/\(∃e,eZ (kv (preD++r::D)) ((2^M:Nat):Int) (preR++rt::rts) V c c2 c3 c4 c5 c6 (kv (preP++a::b::prs)) (preT++p::pths) ((k:Int),(preR.length:Int),(Cb due).A,(Cb due).B)=some (.inr (.inl e)))\/
      (H (o9 (k%2^q) (wy a b) p q)==rt)=true/\a8U due (if 2^q<=k then b else a)/\(∃e,eZ (kv (preD++r::D)) ((2^M:Nat):Int) (preR++rt::rts) V c c2 c3 c4 c5 c6 (kv (preP++a::b::prs)) (preT++p::pths) ((k:Int),(preR.length:Int),(Cb due).A,(Cb due).B)=some (.inr (.inr (.inl e))))\/
      (H (o9 (k%2^q) (wy a b) p q)==rt)=true/\ ¬a8U due (if 2^q<=k then b else a)/\eZ (kv (preD++r::D)) ((2^M:Nat):Int) (preR++rt::rts) V c c2 c3 c4 c5 c6 (kv (preP++a::b::prs)) (preT++p::pths) ((k:Int),(preR.length:Int),(Cb due).A,(Cb due).B)=
       some (.inl (((k%2^q:Nat):Int),((preR.length+1:Nat):Int),(fpK (q+1) (k%2^q) a b r).1.A,(fpK (q+1) (k%2^q) a b r).1.B)):=by
     f j:=V2 (k:=q+1) (i:=k%2^q) a b r om om
     simp only [eZ,hsh,hh]
     rw [brd om,hR,obs,brd om,brd om,ak (2*(preR.length:Int)) om om,hA,obs,ak (2*(preR.length:Int)+1) om om,hB,obs,HS (by simp),obs,hT,obs,w,show ([a.1,b.1]:List Ext).flatMap e8=wy a b from rfl,o,obs]
     cases t:(H (o9 (k%2^q) (wy a b) p q)==rt) with
     |false=>exact .inl ⟨rfl,_,rfl⟩
     |true=>
      refine .inr ?_
      rw [aH,ba]
      by_cases hlow:k<2^q
      ·f n:(if 2^q<=k then b else a)=a:=aa om
       rw [n,brn om]
       cases due with
       |none=>
        refine .inr ⟨rfl,(by rintro ⟨d,h,_⟩;cases h), ?_⟩
        rw [brn (by f:=v.1 rfl;omega),z,obs,j,obs,ak _ om om];rfl
       |some d=>
        rw [brd (by f:preR.length≠0:=fun e=>by cases v.2 e
                    omega)]
        rw [show (Cb (some d))=d.1 from rfl,Hu]
        by_cases e:a=d
        ·rw [ae e]
         refine .inr ⟨rfl,by rintro ⟨x,h,h'⟩;cases h;exact h' e, ?_⟩
         rw [z,obs,j,obs,ak _ om om];rfl
        ·rw [aa e]
         exact .inl ⟨rfl,⟨d,rfl,e⟩,_,rfl⟩
      ·f n:(if 2^q<=k then b else a)=b:=ae om
       rw [n,brd om]
       cases due with
       |none=>
        refine .inr ⟨rfl,(by rintro ⟨d,h,_⟩;cases h), ?_⟩
        rw [brn (by f:=v.1 rfl;omega),z,obs,j,obs,ak _ om om];rfl
       |some d=>
        rw [brd (by f:preR.length≠0:=fun e=>by cases v.2 e
                    omega)]
        rw [show (Cb (some d))=d.1 from rfl,Hu]
        by_cases e:b=d
        ·rw [ae e]
         refine .inr ⟨rfl,by rintro ⟨x,h,h'⟩;cases h;exact h' e, ?_⟩
         rw [z,obs,j,obs,ak _ om om];rfl
        ·rw [aa e]
         exact .inl ⟨rfl,⟨d,rfl,e⟩,_,rfl⟩
   rw [qcK,j8]
   rcases s with ⟨t,e,y⟩|⟨t,ho,e,y⟩|⟨t,ho,y⟩
   ·rw [ae t,bX y,obs,kQ]
   ·rw [aa (by rw [t];simp),ae ho,bX y,obs,nu,kQ]
   ·rw [aa (by rw [t];simp),aa ho,cf y];exact ih
end
section
def flB (P:List (List (List UInt8))):List UInt8:=P.flatMap fun x=>x.flatMap id
structure BoO (o:Opening):Prop where
 rn:o.Rounds.length<=6
 rr: ∀g∈o.Rounds,g.length<=3
 ro:o.Roots.length<=6
 rh: ∀x∈o.Roots,x.length<=32
 qn:o.Queries.length<=8
 qp: ∀q∈o.Queries,q.Pairs.length<=12
 qt: ∀q∈o.Queries,q.Paths.length<=6
 qq: ∀q∈o.Queries, ∀p∈q.Paths,p.length<=8/\ ∀x∈p,x.length<=32
theorem b9o {l:List (List UInt8)}:l.all h32=true↔ ∀x∈l,x.length=32:=by simp [aB,h32]
theorem M0 {v:Nat} {t:Setting} {q:Query} (h:L5 (v:Int) t q=true):q.Pairs.length=2*v/\gX q.Pairs/\q.Paths.length=v/\ ∀j,j<v->(((q.Paths.getD j []).length:Nat):Int)=v+t.Rate-1-j/\ ∀x∈q.Paths.getD j [],x.length=32:=by
 unfold L5 at h
 simp only [aD,aC] at h
 refine ⟨by omega,c0h.1 h.2.1,by omega,fun j b=> ?_⟩
 a:=vI.1 h.2.2.2 j om
 unfold a3H at this
 simp only [aD,aC] at this
 exact ⟨this.1,b9o.1 this.2⟩
structure OkO (o:Opening) (v:Nat) (t:Setting):Prop where
 v1:1<=v/\v<=6
 st:setB t=true
 rn:o.Rounds.length=v
 rr: ∀g∈o.Rounds,g.length=3/\gX g
 ro:o.Roots.length=v-1
 rh: ∀x∈o.Roots,x.length=32
 la:okE o.Last
 no:0<=o.Nonce/\o.Nonce<=65535
 qn:(o.Queries.length:Int)=t.Queries
 qq: ∀q∈o.Queries,L5 (v:Int) t q=true
theorem b0a {o:Opening} {v:Nat} {t:Setting} (h:okO o (v:Int) t=true):OkO o v t:=by
 unfold okO Ex at h
 simp only [aD,aC,aB] at h
 obtain ⟨m,c,⟨n,d⟩,p,e,f,i,j,b⟩:=h
 refine ⟨by omega,c,by omega,fun g k=> ?_,by omega,fun x l=> ?_,KM.1 f,i,j,b⟩
 ·a:=d g k
  unfold v7 at this
  simp only [aD,aC] at this
  exact ⟨by omega,c0h.1 this.2⟩
 ·a:=e x l
  simpa [h32] using this
theorem BoO.sm {o:Opening} (h:BoO o):SmO o:=⟨by a:=h.rn;omega,fun g c=>by a:=h.rr g c;omega,by a:=h.ro;omega,by a:=h.qn;omega,fun q b=>by a:=h.qp q b;omega,fun q b p d=>by a:=(h.qq q b p d).1;omega⟩
variable {o:Opening} {v:Nat} {t:Setting}
end
section
theorem Vl: ∀(A B preA preB:List K) (acc:K),A.length=B.length->preA.length=preB.length->preA.length+A.length<=100->
 Loop (kB (kv (preA++A)) (kv (preB++B)) 0 0) ((preA.length:Int),acc.1.A,acc.1.B)=some (((preA++A).length:Int),false,(eaK A B acc).1.A,(eaK A B acc).1.B)
 |[],B,preA,preB,acc,c,e,d=>by
  refine bX ?_
  simp only [kB,cg]
  rw [brn (by simp),ag (by simp)];simp [eaK]
 |x::A,[],preA,preB,acc,c,e,d=>by simp at c
 |x::A,b::B,preA,preB,acc,c,e,d=>by
  rw [ah,ah] at c
  rw [ah] at d
  a ih:=Vl A B (preA++[x]) (preB++[b]) (acc*(x*b+(1-x)*(1-b))) om (by rw [ab,ab,am,am];omega) (by rw [ab,am];omega)
  rw [aV,aV,aU,aU,show (preA++[x]).length=preA.length+1 by simp] at ih
  a f:atL (kv (preA++x::A)) (preA.length:Int)=some x.1:=by rw [AR];exact mX (by rw [cg])
  a h:atL (kv (preB++b::B)) (preA.length:Int)=some b.1:=by rw [AR];exact mX (by rw [cg];omega)
  rw [cf (s':=(((preA.length+1:Nat):Int),(acc*(x*b+(1-x)*(1-b))).1.A,(acc*(x*b+(1-x)*(1-b))).1.B)) ?_]
  ·rw [ih];rfl
  ·simp only [kB,cg]
   rw [brd (by rw [ab,ah];omega),f,obs,h,obs,fC x.2 b.2,obs,obs,GU x.2,obs,obs,GU b.2,obs,fC (yl _ _) (yl _ _),obs,lz (rv _ _) (rv _ _),obs,show Ext.mk acc.1.A acc.1.B=acc.1 from rfl,fC acc.2 (Vh _ _),obs,ak _ om om];rfl
theorem a78 {A B:List K} (h:A.length=B.length) (b:A.length<=100):th (kv A) (kv B)=some (eaK A B 1).1:=by
 a:=Vl A B [] [] 1 h rfl (by rw [ai];omega)
 unfold th
 rw [Pw,obs]
 rw [bg,bg,ai] at this
 a key:Loop (kB (kv A) (kv B) 0 0) (0,e1.A,e1.B)=_:=this
 rw [key];rfl
theorem VP: ∀(A B preA preB:List K) (acc:K),A.length=B.length->preA.length=preB.length->preA.length+A.length<=100->
 Loop (qH (kv (preB++B)) (kv (preA++A)) ((preA++A).length:Int) 0 0) ((preA.length:Int),acc.1.A,acc.1.B)=some (((preA++A).length:Int),false,(eaK A B acc).1.A,(eaK A B acc).1.B)
 |[],B,preA,preB,acc,c,e,d=>by
  refine bX ?_
  simp only [qH]
  rw [brn (by simp),ag (by simp)];simp [eaK]
 |x::A,[],preA,preB,acc,c,e,d=>by simp at c
 |x::A,b::B,preA,preB,acc,c,e,d=>by
  rw [ah,ah] at c
  rw [ah] at d
  a ih:=VP A B (preA++[x]) (preB++[b]) (acc*(x*b+(1-x)*(1-b))) om (by rw [ab,ab,am,am];omega) (by rw [ab,am];omega)
  rw [aV,aV,aU,aU,show (preA++[x]).length=preA.length+1 by simp] at ih
  a f:atL (kv (preA++x::A)) (preA.length:Int)=some x.1:=by rw [AR];exact mX (by rw [cg])
  a h:atL (kv (preB++b::B)) (preA.length:Int)=some b.1:=by rw [AR];exact mX (by rw [cg];omega)
  rw [cf (s':=(((preA.length+1:Nat):Int),(acc*(x*b+(1-x)*(1-b))).1.A,(acc*(x*b+(1-x)*(1-b))).1.B)) ?_]
  ·rw [ih];rfl
  ·simp only [qH]
   rw [brd (by rw [ab,ah];omega),f,obs,h,obs,fQ x.2 b.2,obs,Ku,obs,qY a2j x.2,obs,obs,obs,qY a2j b.2,obs,fQ (yl _ _) (yl _ _),obs,kW (rv _ _) (rv _ _),obs,show Ext.mk acc.1.A acc.1.B=acc.1 from rfl,fQ acc.2 (Vh _ _),obs,ak _ om om];rfl
theorem a6Y {A B:List K} (h:A.length=B.length) (b:A.length<=100):JZ (kv A) (kv B)=some (eaK A B 1).1:=by
 a:=VP A B [] [] 1 h rfl (by rw [ai];omega)
 unfold JZ
 rw [Ku,obs,cg]
 rw [bg,bg,ai] at this
 a key:Loop (qH (kv B) (kv A) (A.length:Int) 0 0) (0,e1.A,e1.B)=_:=this
 rw [key];rfl
theorem c5G {L:List Ext} (h:gX L):kv (L.map toK)=L:=by
 rw [kv,jj]
 refine (cC fun x a=> ?_).trans (List.map_id _)
 exact mi (h x a)
theorem b2X: ∀(n m:Nat) (rts:List (List UInt8)) (prs:List K) (pths:List (List (List UInt8))) (D:List K),n<=m->rts.length=n->prs.length=2*n->pths.length=n->D.length=n->(∀j,j<n->(pths.getD j []).length=m-1-j/\ ∀x∈pths.getD j [],x.length=32)->QSh m rts prs pths D
 |0,m,[],[],[],[],_,_,_,_,_,_=>trivial
 |0,m,_::_,_,_,_,_,h,_,_,_,_=>by simp at h
 |0,m,_,_::_,_,_,_,_,h,_,_,_=>by simp at h
 |0,m,_,_,_::_,_,_,_,_,h,_,_=>by simp at h
 |0,m,_,_,_,_::_,_,_,_,_,h,_=>by simp at h
 |n+1,m,rts,prs,pths,D,o,e,d,f,i,k=>by
  match rts,prs,pths,D,e,d,f,i with
  |rt::rts,a::b::prs,p::pths,r::D,e,d,f,i=>
   simp only [ah] at e d f i
   c h0:=k 0 om
   exact ⟨by omega,by c:=h0.1;simpa using this,fun x l=>h0.2 x l,b2X n (m-1) rts prs pths D om om om om om fun j q=>by
    c:=k (j+1) om
    exact ⟨this.1.trans om,this.2⟩⟩
  |[],_,_,_,e,_,_,_=>simp at e
  |_::_,[],_,_,_,d,_,_=>simp at d
  |_::_,[_],_,_,_,d,_,_=>simp at d;omega
  |_::_,_::_::_,[],_,_,_,f,_=>simp at f
  |_::_,_::_::_,_::_,[],_,_,_,i=>simp at i
variable {o:Opening} {v ρ:Nat} {t:Setting} {root:List UInt8} {D:List K} {q:Query}
theorem c2g (h:OkO o v t) (e1:t.Rate=(ρ:Int)) (b:D.length=v) (c:q∈o.Queries):QSh (v+ρ) (root::o.Roots) (q.Pairs.map toK) q.Paths D:=by
 obtain ⟨d,k,e,f⟩:=M0 (h.qq q c)
 a l:=h.v1
 a m:=wV h.st
 a n:=h.ro
 exact b2X v (v+ρ) _ _ _ _ om (by rw [ah];omega) (by rw [aO,d]) e b fun j i=>by
  a:=f j i
  exact ⟨by omega,this.2⟩
theorem a5R (h:OkO o v t) (e1:t.Rate=(ρ:Int)) (d:D.length=v) (b:q∈o.Queries) {p:Int} (h0:0<=p) (e:p<512):
 CL (root::o.Roots) (v:Int) ((2^(v+ρ):Nat):Int) p (kv D) o q=some (qcK (toK o.Last) (v+ρ) (root::o.Roots) (q.Pairs.map toK) q.Paths D p.toNat none):=by
 a f:=wV h.st
 a i:=h.v1
 a j:=h.ro
 a key:=VR (l:=toK o.Last) (V:=(v:Int)) (c:=o.Rounds) (c2:=o.Roots) (c3:=o.Last.A) (c4:=o.Last.B) (c5:=o.Nonce) (c6:=o.Queries) (root::o.Roots) (q.Pairs.map toK) q.Paths D (v+ρ) [] [] [] [] p.toNat none (c2g h e1 d b) om rfl rfl rfl (by rw [ai,ah];omega) (by rw [ai,ah];omega) om (by simp) (by simp)
 simp only [bg,ai,c5G (M0 (h.qq q b)).2.1,eo h0,mi h.la] at key
 exact key
theorem a41 (h:OkO o v t) (e1:t.Rate=(ρ:Int)) (d:D.length=v) (b:q∈o.Queries) {p:Int} (h0:0<=p) (e:p<512):
 xm (root::o.Roots) (kv D) ((2^(v+ρ):Nat):Int) p o q=some (qcK (toK o.Last) (v+ρ) (root::o.Roots) (q.Pairs.map toK) q.Paths D p.toNat none):=by
 a f:=wV h.st
 a i:=h.v1
 a j:=h.ro
 a key:=VT (l:=toK o.Last) (M:=v+ρ) (V:=(((root::o.Roots).length:Nat):Int)) (c:=o.Rounds) (c2:=o.Roots) (c3:=o.Last.A) (c4:=o.Last.B) (c5:=o.Nonce) (c6:=o.Queries) (root::o.Roots) (q.Pairs.map toK) q.Paths D (v+ρ) [] [] [] [] p.toNat none (c2g h e1 d b) om rfl rfl rfl rfl (by rw [ai];omega) (by rw [ai,ah];omega) om (by simp) (by simp)
 simp only [bg,ai,c5G (M0 (h.qq q b)).2.1,eo h0,mi h.la] at key
 exact key
end
section
theorem T5 {v:Nat} {V:Int} {rts l:List (List UInt8)} {t2:List Ext} {c c2 c3 c4 c5 c8 c9 c10 c16 c18:Int} {c11:List Query} {c17:List UInt8} (hV:V=(v:Int)) (n:rts.length+1=v) (f: ∀x∈rts,x.length=32): ∀(R pre:List (List K)) (cl:K) (s:Source) (k:Int) (P:List Ext),(∀g∈R,g.length=3)->Few s k->k+3*R.length<=999890->P.length+R.length<=1000->pre.length+R.length=v->v<=100->
 ((vfM 1 (bvO v rts) R pre.length cl s).1=0->Loop (eP l V t2 c c2 c3 c4 c5 (kvv (pre++R)) rts c8 c9 c10 c11 c16 c17 c18) (P,(pre.length:Int),s.Script,s.At,s.State,s.Count,cl.1.A,cl.1.B)=
   some (.inr (P++kv (vfM 1 (bvO v rts) R pre.length cl s).2.1,V,false,(vfM 1 (bvO v rts) R pre.length cl s).2.2.2.Script,(vfM 1 (bvO v rts) R pre.length cl s).2.2.2.At,(vfM 1 (bvO v rts) R pre.length cl s).2.2.2.State,(vfM 1 (bvO v rts) R pre.length cl s).2.2.2.Count,
    (vfM 1 (bvO v rts) R pre.length cl s).2.2.1.1.A,(vfM 1 (bvO v rts) R pre.length cl s).2.2.1.1.B)))/\
 ((vfM 1 (bvO v rts) R pre.length cl s).1≠0->(vfM 1 (bvO v rts) R pre.length cl s).1=10/\ ∃e,Loop (eP l V t2 c c2 c3 c4 c5 (kvv (pre++R)) rts c8 c9 c10 c11 c16 c17 c18) (P,(pre.length:Int),s.Script,s.At,s.State,s.Count,cl.1.A,cl.1.B)=some (.inl e))
 |[],pre,cl,s,k,P,o,b,w,y,p,z=>by
  rw [ai] at p
  refine ⟨fun _=>bX ?_,fun h=>absurd rfl h⟩
  simp only [eP,bV]
  rw [brn om,ag om]
  simp [vfM,kv];omega
 |g::R,pre,cl,s,k,P,o,b,w,y,p,z=>by
  rw [ah] at w y p
  a q:=o g (by simp)
  a hat:atL (kvv (pre++g::R)) (pre.length:Int)=some (kv g):=by rw [Xe (by simp)];simp
  a hk0:0<=k:=by a:=b.2;a:=b.1.4;omega
  rw [vfM,ae (show g.length=1+2 from q)]
  by_cases m:g.getD 0 0+g.getD 1 0=cl
  ·rw [ae m]
   a r:Few (bvO v rts pre.length (nsM s g)) (k+2+1):=X9 v rts _ _ _ (JQ b om g) om
   a ih:=T5 (l:=l) (t2:=t2) (c:=c) (c2:=c2) (c3:=c3) (c4:=c4) (c5:=c5) (c8:=c8) (c9:=c9) (c10:=c10) (c11:=c11) (c16:=c16) (c17:=c17) (c18:=c18) hV n f R (pre++[g]) (lnK g (rdM s g)) (bvO v rts pre.length (nsM s g)) (k+2+1) (P++[(rdM s g).1]) (fun x t=>o x (by simp [t])) r om (by rw [ab,am];omega) (by rw [ab,am];omega) z
   rw [aV,aU,ab,am] at ih
   a step:eP l V t2 c c2 c3 c4 c5 (kvv (pre++g::R)) rts c8 c9 c10 c11 c16 c17 c18 (P,(pre.length:Int),s.Script,s.At,s.State,s.Count,cl.1.A,cl.1.B)=
    some (.inl (P++[(rdM s g).1],((pre.length+1:Nat):Int),(bvO v rts pre.length (nsM s g)).Script,(bvO v rts pre.length (nsM s g)).At,(bvO v rts pre.length (nsM s g)).State,(bvO v rts pre.length (nsM s g)).Count,(lnK g (rdM s g)).1.A,(lnK g (rdM s g)).1.B)):=by
     simp only [eP]
     rw [brd om,hat,obs,atK (i:=0) (j:=0) rfl om,obs,atK (i:=1) (j:=1) rfl om,obs,lz (aI _) (aI _),obs]
     rw [show eA (g.getD 0 0).1 (g.getD 1 0).1=cl.1 from congrArg Subtype.val m,bre rfl,bre rfl,show Source.mk s.Script s.At s.State s.Count=s from rfl,Rw b.1 om,obs,c1Y b,obs]
     dsimp only
     rw [VF _ om,obs,bt (by rw [ab,am];omega),ak _ om om]
     by_cases hb:pre.length+1<v
     ·a t:rts.getD pre.length []∈rts:=by simp [show pre.length<rts.length by omega]
      rw [brd om,pP (d:=[]) om,obs,vx (JQ b om g).1.3 (by rw [f _ t];omega),obs,bvO,ae hb];rfl
     ·rw [brn om,bvO,aa hb];rfl
   refine ⟨fun h=> ?_,fun h=> ?_⟩
   ·rw [cf step,ih.1 h]
    simp [kv]
   ·obtain ⟨u,e,he⟩:=ih.2 h
    exact ⟨u,e,by rw [cf step,he]⟩
  ·rw [aa m]
   refine ⟨fun h=>absurd (show (10:Int)=0 from h) (by decide),fun _=>⟨rfl,(P,s.Script,s.At,s.State,s.Count,s.Script,s.At,s.State,s.Count,cl.1.A,cl.1.B),bX ?_⟩⟩
   simp only [eP]
   rw [brd om,hat,obs,atK (i:=0) (j:=0) rfl om,obs,atK (i:=1) (j:=1) rfl om,obs,lz (aI _) (aI _),obs]
   rw [show eA (g.getD 0 0).1 (g.getD 1 0).1=(g.getD 0 0+g.getD 1 0).1 from rfl,Hu,aa m]
theorem SI {v:Nat} {V:Int} {rts:List (List UInt8)} {c6:List (List Ext)} {c8 c9 c10 c14 c15:Int} {c11:List Query} (hV:V=(v:Int)) (n:rts.length+1=v) (b: ∀x∈rts,x.length=32): ∀(R pre:List (List K)) (cl:K) (s:Source) (k:Int) (P:List Ext),(∀g∈R,g.length=3)->Few s k->k+3*R.length<=999890->P.length+R.length<=1000->pre.length+R.length=v->v<=100->
 ((vfM 1 (bvO v rts) R pre.length cl s).1=0->Loop (bn 1 (kvv (pre++R)) V c14 c15) (P,(pre.length:Int),s.Script,s.At,s.State,s.Count,V,c6,rts,c8,c9,c10,c11,cl.1.A,cl.1.B)=
   some (.inr (P++kv (vfM 1 (bvO v rts) R pre.length cl s).2.1,V,false,(vfM 1 (bvO v rts) R pre.length cl s).2.2.2.Script,(vfM 1 (bvO v rts) R pre.length cl s).2.2.2.At,(vfM 1 (bvO v rts) R pre.length cl s).2.2.2.State,(vfM 1 (bvO v rts) R pre.length cl s).2.2.2.Count,V,c6,rts,c8,c9,c10,c11,
    (vfM 1 (bvO v rts) R pre.length cl s).2.2.1.1.A,(vfM 1 (bvO v rts) R pre.length cl s).2.2.1.1.B)))/\
 ((vfM 1 (bvO v rts) R pre.length cl s).1≠0->(vfM 1 (bvO v rts) R pre.length cl s).1=10/\ ∃e:List Ext×Int×List Ext×Int×List UInt8×Int×Int×List (List Ext)×List (List UInt8)×Int×Int×Int×List Query×Int×Int,e.2.1=10/\Loop (bn 1 (kvv (pre++R)) V c14 c15) (P,(pre.length:Int),s.Script,s.At,s.State,s.Count,V,c6,rts,c8,c9,c10,c11,cl.1.A,cl.1.B)=some (.inl e))
 |[],pre,cl,s,k,P,o,c,u,w,p,y=>by
  rw [ai] at p
  refine ⟨fun _=>bX ?_,fun h=>absurd rfl h⟩
  simp only [bn,bV]
  rw [brn om,ag om]
  simp [vfM,kv];omega
 |g::R,pre,cl,s,k,P,o,c,u,w,p,y=>by
  rw [ah] at u w p
  a q:=o g (by simp)
  a f:qQ 1=some ((2:Nat):Int):=Av (kind:=1) (.inl rfl)
  a hat:atL (kvv (pre++g::R)) (pre.length:Int)=some (kv g):=by rw [Xe (by simp)];simp
  a hk0:0<=k:=by a:=c.2;a:=c.1.4;omega
  rw [vfM,ae (show g.length=1+2 from q)]
  by_cases l:g.getD 0 0+g.getD 1 0=cl
  ·rw [ae l]
   a r:Few (bvO v rts pre.length (nsM s g)) (k+2+1):=X9 v rts _ _ _ (JQ c om g) om
   a ih:=SI (c6:=c6) (c8:=c8) (c9:=c9) (c10:=c10) (c11:=c11) (c14:=c14) (c15:=c15) hV n b R (pre++[g]) (lnK g (rdM s g)) (bvO v rts pre.length (nsM s g)) (k+2+1) (P++[(rdM s g).1]) (fun x m=>o x (by simp [m])) r om (by rw [ab,am];omega) (by rw [ab,am];omega) y
   rw [aV,aU,ab,am] at ih
   a step:bn 1 (kvv (pre++g::R)) V c14 c15 (P,(pre.length:Int),s.Script,s.At,s.State,s.Count,V,c6,rts,c8,c9,c10,c11,cl.1.A,cl.1.B)=
    some (.inl (P++[(rdM s g).1],((pre.length+1:Nat):Int),(bvO v rts pre.length (nsM s g)).Script,(bvO v rts pre.length (nsM s g)).At,(bvO v rts pre.length (nsM s g)).State,(bvO v rts pre.length (nsM s g)).Count,V,c6,rts,c8,c9,c10,c11,(lnK g (rdM s g)).1.A,(lnK g (rdM s g)).1.B)):=by
     simp only [bn,lk]
     rw [brd om,hat,obs,f,obs,ak _ om om,fj (by rw [cg];omega),atK (i:=0) (j:=0) rfl om,obs,atK (i:=1) (j:=1) rfl om,obs,kW (aI _) (aI _),obs]
     rw [show eA (g.getD 0 0).1 (g.getD 1 0).1=cl.1 from congrArg Subtype.val l,bre rfl,bre rfl,show Source.mk s.Script s.At s.State s.Count=s from rfl,T2 c.1 om,obs,c1V c,obs]
     dsimp only
     rw [Nr _ om,obs,bt (by rw [ab,am];omega),ak (V-1) om om,ak ((pre.length:Int)+1) om om]
     by_cases z:pre.length+1<v
     ·a m:rts.getD pre.length []∈rts:=by simp [show pre.length<rts.length by omega]
      rw [brd om,pP (d:=[]) om,obs,bt (by rw [b _ m];omega),vj (JQ c om g).1.3 (by rw [b _ m];omega),obs,obs,bvO,ae z];rfl
     ·rw [brn om,obs,bvO,aa z];rfl
   refine ⟨fun h=> ?_,fun h=> ?_⟩
   ·rw [cf step,ih.1 h]
    simp [kv]
   ·obtain ⟨t,e,h1,he⟩:=ih.2 h
    exact ⟨t,e,h1,by rw [cf step,he]⟩
  ·rw [aa l]
   refine ⟨fun h=>absurd (show (10:Int)=0 from h) (by decide),fun _=>⟨rfl,(P,10,s.Script,s.At,s.State,s.Count,V,c6,rts,c8,c9,c10,c11,cl.1.A,cl.1.B),rfl,bX ?_⟩⟩
   simp only [bn,lk]
   rw [brd om,hat,obs,f,obs,ak _ om om,fj (by rw [cg];omega),atK (i:=0) (j:=0) rfl om,obs,atK (i:=1) (j:=1) rfl om,obs,kW (aI _) (aI _),obs]
   rw [show eA (g.getD 0 0).1 (g.getD 1 0).1=(g.getD 0 0+g.getD 1 0).1 from rfl,Hu,aa l]
end
section
variable {o:Opening} {v ρ nq bits:Nat} {t:Setting} {root:List UInt8} {D P:List K} {s:Source} {k:Int}
theorem Wh {c21 c22 c23 c24 c25 c33 c35 c36 c38 c39 c40:Int} {c32:List Ext} {c34 c37:List UInt8} (h:OkO o v t) (e1:t.Rate=(ρ:Int)) (l:D.length=v): ∀(ps:List Int) (qs:List Query) (preP:List Int) (preQ:List Query),o.Queries=preQ++qs->preP.length=preQ.length->ps.length=qs.length->preP.length+ps.length<=100->(∀p∈ps,0<=p/\p<512)->
 (qsC (toK o.Last) (v+ρ) (root::o.Roots) D ps qs=0->Loop (is (root::o.Roots) (kv D) (v:Int) ((2^(v+ρ):Nat):Int) (preP++ps) c21 c22 c23 c24 c25 o.Rounds o.Roots o.Last.A o.Last.B o.Nonce o.Queries c32 c33 c34 c35 c36 c37 c38 c39 c40) (preP.length:Int)=some (.inr (((preP++ps).length:Int),false)))/\
 (qsC (toK o.Last) (v+ρ) (root::o.Roots) D ps qs≠0->Loop (is (root::o.Roots) (kv D) (v:Int) ((2^(v+ρ):Nat):Int) (preP++ps) c21 c22 c23 c24 c25 o.Rounds o.Roots o.Last.A o.Last.B o.Nonce o.Queries c32 c33 c34 c35 c36 c37 c38 c39 c40) (preP.length:Int)=some (.inl (qsC (toK o.Last) (v+ρ) (root::o.Roots) D ps qs)))
 |[],qs,preP,preQ,b,j,e,k,f=>by
  refine ⟨fun _=>bX ?_,fun h=>absurd (by cases qs<;>rfl) h⟩
  simp only [is]
  rw [bV,brn om,ag om]
 |p::ps,[],preP,preQ,b,j,e,k,f=>by simp at e
 |p::ps,q::qs,preP,preQ,b,j,e,k,f=>by
  rw [ah] at k
  a c:=f p (by simp)
  a m:q∈o.Queries:=by rw [b];simp
  a n:=a5R (root:=root) h e1 l m c.1 c.2
  a ih:=Wh (c21:=c21) (c22:=c22) (c23:=c23) (c24:=c24) (c25:=c25) (c32:=c32) (c33:=c33) (c34:=c34) (c35:=c35) (c36:=c36) (c37:=c37) (c38:=c38) (c39:=c39) (c40:=c40) h e1 l ps qs (preP++[p]) (preQ++[q]) (by rw [b];simp) (by simp [j]) (by simpa using e) (by rw [ab,am];omega) (fun x r=>f x (by simp [r]))
  rw [aV,aU,show (preP++[p]).length=preP.length+1 by simp] at ih
  a i:is (root::o.Roots) (kv D) (v:Int) ((2^(v+ρ):Nat):Int) (preP++p::ps) c21 c22 c23 c24 c25 o.Rounds o.Roots o.Last.A o.Last.B o.Nonce o.Queries c32 c33 c34 c35 c36 c37 c38 c39 c40 (preP.length:Int)=
     br (qcK (toK o.Last) (v+ρ) (root::o.Roots) (q.Pairs.map toK) q.Paths D p.toNat none !=0) (some (.inr (.inl (qcK (toK o.Last) (v+ρ) (root::o.Roots) (q.Pairs.map toK) q.Paths D p.toNat none)))) (some (.inl ((preP.length+1:Nat):Int))):=by
    simp only [is]
    rw [brd (by rw [ab,ah];omega),mX rfl,obs,show atL o.Queries (preP.length:Int)=some q by rw [b];exact mX om,obs,show Opening.mk o.Rounds o.Roots (Ext.mk o.Last.A o.Last.B) o.Nonce o.Queries=o from rfl,n,obs,ak _ om om];rfl
  rw [qsC]
  by_cases d:qcK (toK o.Last) (v+ρ) (root::o.Roots) (q.Pairs.map toK) q.Paths D p.toNat none=0
  ·rw [ae d]
   rw [fj d] at i
   rw [cf i];exact ih
  ·rw [aa d]
   rw [brb d] at i
   exact ⟨fun h=>absurd h d,fun _=>bX i⟩
theorem VX {c2 c4 c5 c6 c7 c8 c9 c16 c17 c18 N:Int} {c:List Ext} {c3:List UInt8} (h:OkO o v t) (e1:t.Rate=(ρ:Int)) (m:D.length=v): ∀(ps:List Int) (qs:List Query) (preP:List Int) (preQ:List Query),o.Queries=preQ++qs->preP.length=preQ.length->ps.length=qs.length->preP.length+ps.length<=100->(∀p∈ps,0<=p/\p<512)->N=((preP++ps).length:Int)->
 (qsC (toK o.Last) (v+ρ) (root::o.Roots) D ps qs=0->Loop (eK (root::o.Roots) (kv D) ((2^(v+ρ):Nat):Int) (preP++ps) N c c2 c3 c4 c5 c6 c7 c8 c9 o.Rounds o.Roots o.Last.A o.Last.B o.Nonce o.Queries c16 c17 c18) (preP.length:Int)=some (.inr (N,false)))/\
 (qsC (toK o.Last) (v+ρ) (root::o.Roots) D ps qs≠0->Loop (eK (root::o.Roots) (kv D) ((2^(v+ρ):Nat):Int) (preP++ps) N c c2 c3 c4 c5 c6 c7 c8 c9 o.Rounds o.Roots o.Last.A o.Last.B o.Nonce o.Queries c16 c17 c18) (preP.length:Int)=some (.inl (qsC (toK o.Last) (v+ρ) (root::o.Roots) D ps qs)))
 |[],qs,preP,preQ,b,k,f,l,i,hN=>by
  rw [bV] at hN
  refine ⟨fun _=>bX ?_,fun h=>absurd (by cases qs<;>rfl) h⟩
  simp only [eK]
  rw [brn om,ag om,hN]
 |p::ps,[],preP,preQ,b,k,f,l,i,hN=>by simp at f
 |p::ps,q::qs,preP,preQ,b,k,f,l,i,hN=>by
  rw [ah] at l
  a d:=i p (by simp)
  a n:q∈o.Queries:=by rw [b];simp
  a r:=a41 (root:=root) h e1 m n d.1 d.2
  a ih:=VX (N:=N) (c:=c) (c2:=c2) (c3:=c3) (c4:=c4) (c5:=c5) (c6:=c6) (c7:=c7) (c8:=c8) (c9:=c9) (c16:=c16) (c17:=c17) (c18:=c18) h e1 m ps qs (preP++[p]) (preQ++[q]) (by rw [b];simp) (by simp [k]) (by simpa using f) (by rw [ab,am];omega) (fun x s=>i x (by simp [s])) (by rw [hN];simp)
  rw [aV,aU,show (preP++[p]).length=preP.length+1 by simp] at ih
  a j:eK (root::o.Roots) (kv D) ((2^(v+ρ):Nat):Int) (preP++p::ps) N c c2 c3 c4 c5 c6 c7 c8 c9 o.Rounds o.Roots o.Last.A o.Last.B o.Nonce o.Queries c16 c17 c18 (preP.length:Int)=
     br (qcK (toK o.Last) (v+ρ) (root::o.Roots) (q.Pairs.map toK) q.Paths D p.toNat none !=0) (some (.inr (.inl (qcK (toK o.Last) (v+ρ) (root::o.Roots) (q.Pairs.map toK) q.Paths D p.toNat none)))) (some (.inl ((preP.length+1:Nat):Int))):=by
    simp only [eK]
    rw [brd (by rw [hN,ab,ah];omega),mX rfl,obs,show atL o.Queries (preP.length:Int)=some q by rw [b];exact mX om,obs,show Opening.mk o.Rounds o.Roots (Ext.mk o.Last.A o.Last.B) o.Nonce o.Queries=o from rfl,r,obs,ak _ om om];rfl
  rw [qsC]
  by_cases e:qcK (toK o.Last) (v+ρ) (root::o.Roots) (q.Pairs.map toK) q.Paths D p.toNat none=0
  ·rw [ae e]
   rw [fj e] at j
   rw [cf j];exact ih
  ·rw [aa e]
   rw [brb e] at j
   exact ⟨fun h=>absurd h e,fun _=>bX j⟩
def FY (o:Opening):List (List K):=o.Rounds.map fun g=>g.map toK
theorem a7K (h:OkO o v t):kvv (FY o)=o.Rounds:=by
 rw [kvv,FY,jj]
 refine (cC fun g a=> ?_).trans (List.map_id _)
 exact c5G (h.rr g a).2
end
section
variable {o:Opening} {v ρ nq bits:Nat} {t:Setting} {root:List UInt8} {P:List K} {cl:K} {s:Source} {k:Int}
noncomputable def vfO (v:Nat) (o:Opening) (cl:K) (s:Source):Int×List K×K×Source:=vfM 1 (bvO v o.Roots) (FY o) 0 cl s
noncomputable def chO (v ρ nq bits:Nat) (root:List UInt8) (P:List K) (cl:K) (o:Opening) (s:Source):Int:=chC (v+ρ) bits nq root P o.Roots (toK o.Last) o.Nonce o.Queries (vfO v o cl s)
theorem a48 (h:OkO o v t) (hP:P.length=v) (e1:t.Rate=(ρ:Int)) (e2:t.Queries=(nq:Int)) (e3:t.Grind=(bits:Int)) (p:Few s k) (hk:k<=999850):
 ∃src,y6 root (v:Int) (kv P) cl.1 t o s=some (src,chO v ρ nq bits root P cl o s)/\(chO v ρ nq bits root P cl o s=0->src=chS nq (toK o.Last) o.Nonce (vfO v o cl s)):=by
 a hs:=wV h.st
 a hv:=h.v1
 a hro:=h.ro
 a z:=h.rn
 a hqn:=h.qn
 a hk0:0<=k:=by a:=p.2;a:=p.1.4;omega
 a hrl:(FY o).length=v:=by rw [FY,aO,z]
 a hr3: ∀g∈FY o,g.length=3:=fun g hg=>by
   obtain ⟨x,hx,rfl⟩:=bq.1 hg
   rw [aO,(h.rr x hx).1]
 obtain ⟨q,hq⟩: ∃q,v+ρ=q+1:=⟨v+ρ-1,by omega⟩
 a hpq:=a4w q om
 a r:=T5 (V:=(v:Int)) (rts:=o.Roots) (l:=root::o.Roots) (t2:=kv P) (c:=cl.1.A) (c2:=cl.1.B) (c3:=t.Rate) (c4:=t.Queries) (c5:=t.Grind) (c8:=o.Last.A) (c9:=o.Last.B) (c10:=o.Nonce) (c11:=o.Queries) (c16:=0) (c17:=[]) (c18:=0) rfl om h.rh (FY o) [] cl s k [] hr3 p om (by rw [ai];omega) (by rw [ai];omega) om
 rw [bg,bg,ai,a7K h] at r
 a i:=QL (kind:=1) (bv:=bvO v o.Roots) (FY o) 0 cl s
 a f:=QU (kind:=1) (X9 v o.Roots) (FY o) 0 cl s k p om
 rw [show vfM 1 (bvO v o.Roots) (FY o) 0 cl s=vfO v o cl s from rfl] at r i f
 rw [hrl] at i f
 unfold y6
 rw [bt (by simp only [ab,am];omega),aU]
 unfold chO chC
 by_cases h0:(vfO v o cl s).1=0
 ·a key:Loop (eP (root::o.Roots) (v:Int) (kv P) cl.1.A cl.1.B t.Rate t.Queries t.Grind o.Rounds o.Roots o.Last.A o.Last.B o.Nonce o.Queries 0 [] 0) ([],0,s.Script,s.At,s.State,s.Count,cl.1.A,cl.1.B)=_:=r.1 h0
  a n:=i h0
  rw [key,obs,nu,ae h0]
  dsimp only
  a d:o.Last=(toK o.Last).1:=(mi h.la).symm
  rw [a78 (by rw [n,hP]) om,obs,fC h.la (aI _),obs,show eM o.Last (eaK (vfO v o cl s).2.1 P 1).1=(toK o.Last*eaK (vfO v o cl s).2.1 P 1).1 by rw [K.mul_val, <-d],Hu]
  by_cases u:toK o.Last*eaK (vfO v o cl s).2.1 P 1=(vfO v o cl s).2.2.1
  ·rw [ae u,ae u]
   a j:Few (rsM (vfO v o cl s).2.2.2 [toK o.Last]) (k+3*v+1):=f.take _
   rw [show Source.mk (vfO v o cl s).2.2.2.Script (vfO v o cl s).2.2.2.At (vfO v o cl s).2.2.2.State (vfO v o cl s).2.2.2.Count=(vfO v o cl s).2.2.2 from rfl,show ([o.Last]:List Ext)=kv [toK o.Last] by rw [kv,List.map_singleton, <-d],Rw f.1 (by simp),obs,e3,b0Y j.1.3 om,obs]
   cases h2:Rq (rsM (vfO v o cl s).2.2.2 [toK o.Last]).State bits o.Nonce with
   |false=>rw [du,cL,aa (by simp)];exact ⟨_,rfl,fun h=>absurd h (by decide)⟩
   |true=>
    a hfT:Few (tkM (rsM (vfO v o cl s).2.2.2 [toK o.Last]) (ic o.Nonce)) (k+3*v+1+1):=j.take _
    a hpl: ∀x∈plM (drL (tkM (rsM (vfO v o cl s).2.2.2 [toK o.Last]) (ic o.Nonce)) nq) ((2^q:Nat):Int),0<=x/\x<512:=fun x hx=>by
      obtain ⟨y,hy,rfl⟩:=bq.1 hx
      a g0:=pi y.A (b:=((2^q:Nat):Int)) om
      a g1:=md y.A (b:=((2^q:Nat):Int)) om
      a g2:=a4w (q+1) om
      a g3:2^(q+1)=2*2^q:=by rw [fT];omega
      omega
    a hsh:bC .i64 1 (((v+ρ:Nat)):Int)=((2^(v+ρ):Nat):Int):=Ta (v+ρ) om
    rw [aH,ba,ae rfl,zI,obs,vx j.1.3 (by rw [dJ];omega),obs,e1,ak ((v:Int)+(ρ:Int)) om om,ee _ om om,brd om,show (v:Int)+(ρ:Int)=((v+ρ:Nat):Int) by omega,hsh,hq,a7Q q om,e2,a2f hfT om om om,obs,j8]
    a m:=Wh (root:=root) (D:=(vfO v o cl s).2.1) (c21:=cl.1.A) (c22:=cl.1.B) (c23:=(ρ:Int)) (c24:=(nq:Int)) (c25:=t.Grind) (c32:=(drS (tkM (rsM (vfO v o cl s).2.2.2 [toK o.Last]) (ic o.Nonce)) nq).Script) (c33:=(drS (tkM (rsM (vfO v o cl s).2.2.2 [toK o.Last]) (ic o.Nonce)) nq).At) (c34:=(drS (tkM (rsM (vfO v o cl s).2.2.2 [toK o.Last]) (ic o.Nonce)) nq).State) (c35:=(drS (tkM (rsM (vfO v o cl s).2.2.2 [toK o.Last]) (ic o.Nonce)) nq).Count) (c36:=0) (c37:=[]) (c38:=0) (c39:=(vfO v o cl s).2.2.1.1.A) (c40:=(vfO v o cl s).2.2.1.1.B) h e1 n (plM (drL (tkM (rsM (vfO v o cl s).2.2.2 [toK o.Last]) (ic o.Nonce)) nq) ((2^q:Nat):Int)) o.Queries [] [] rfl rfl (by rw [plM,aO,oo];omega) (by rw [plM,aO,oo,ai];omega) hpl
    rw [bg,ai,hq,e3] at m
    by_cases w:qsC (toK o.Last) (q+1) (root::o.Roots) (vfO v o cl s).2.1 (plM (drL (tkM (rsM (vfO v o cl s).2.2.2 [toK o.Last]) (ic o.Nonce)) nq) ((2^q:Nat):Int)) o.Queries=0
    ·a kk:=m.1 w
     rw [show (((0:Nat):Int))=0 from rfl] at kk
     rw [kk,w]
     exact ⟨_,rfl,fun _=>rfl⟩
    ·a kk:=m.2 w
     rw [show (((0:Nat):Int))=0 from rfl] at kk
     rw [kk]
     exact ⟨_,rfl,fun h=>absurd h w⟩
  ·rw [aa u,aa u]
   exact ⟨_,rfl,fun h=>absurd h (by decide)⟩
 ·obtain ⟨h10,e,he⟩:=r.2 h0
  a key:Loop (eP (root::o.Roots) (v:Int) (kv P) cl.1.A cl.1.B t.Rate t.Queries t.Grind o.Rounds o.Roots o.Last.A o.Last.B o.Nonce o.Queries 0 [] 0) ([],0,s.Script,s.At,s.State,s.Count,cl.1.A,cl.1.B)=_:=he
  rw [key,obs,kQ,aa h0,h10]
  exact ⟨_,rfl,fun h=>absurd h (by decide)⟩
end
section
variable {o:Opening} {v ρ nq bits:Nat} {t:Setting} {root:List UInt8} {P:List K} {cl:K} {s:Source} {k:Int}
theorem a5b (h:OkO o v t) (hP:P.length=v) (e1:t.Rate=(ρ:Int)) (e2:t.Queries=(nq:Int)) (e3:t.Grind=(bits:Int)) (u:Few s k) (hk:k<=999850):
 ∃src,nU root (kv P) cl.1 t o s=some (chO v ρ nq bits root P cl o s,src)/\(chO v ρ nq bits root P cl o s=0->src=chS nq (toK o.Last) o.Nonce (vfO v o cl s)):=by
 a hs:=wV h.st
 a hv:=h.v1
 a hro:=h.ro
 a m:=h.rn
 a hqn:=h.qn
 a hk0:0<=k:=by a:=u.2;a:=u.1.4;omega
 a hrl:(FY o).length=v:=by rw [FY,aO,m]
 a hr3: ∀g∈FY o,g.length=3:=fun g hg=>by
   obtain ⟨x,hx,rfl⟩:=bq.1 hg
   rw [aO,(h.rr x hx).1]
 obtain ⟨q,hq⟩: ∃q,v+ρ=q+1:=⟨v+ρ-1,by omega⟩
 a hpq:=a4w q om
 a w:=SI (V:=(v:Int)) (rts:=o.Roots) (c6:=o.Rounds) (c8:=o.Last.A) (c9:=o.Last.B) (c10:=o.Nonce) (c11:=o.Queries) (c14:=0) (c15:=0) rfl om h.rh (FY o) [] cl s k [] hr3 u om (by rw [ai];omega) (by rw [ai];omega) om
 rw [bg,bg,ai,a7K h] at w
 a i:=QL (kind:=1) (bv:=bvO v o.Roots) (FY o) 0 cl s
 a f:=QU (kind:=1) (X9 v o.Roots) (FY o) 0 cl s k u om
 rw [show vfM 1 (bvO v o.Roots) (FY o) 0 cl s=vfO v o cl s from rfl] at w i f
 rw [hrl] at i f
 unfold nU e5
 rw [cg,hP,m]
 unfold chO chC
 by_cases h0:(vfO v o cl s).1=0
 ·a key:Loop (bn 1 o.Rounds (v:Int) 0 0) ([],0,s.Script,s.At,s.State,s.Count,(v:Int),o.Rounds,o.Roots,o.Last.A,o.Last.B,o.Nonce,o.Queries,cl.1.A,cl.1.B)=_:=w.1 h0
  a n:=i h0
  rw [key,obs,nu,ae h0,obs]
  dsimp only
  rw [fj rfl]
  simp only [show Ext.mk o.Last.A o.Last.B=o.Last from rfl]
  a d:o.Last=(toK o.Last).1:=(mi h.la).symm
  rw [a6Y (by rw [n,hP]) om,obs,fQ h.la (aI _),obs,show eM o.Last (eaK (vfO v o cl s).2.1 P 1).1=(toK o.Last*eaK (vfO v o cl s).2.1 P 1).1 by rw [K.mul_val, <-d],Hu]
  by_cases z:toK o.Last*eaK (vfO v o cl s).2.1 P 1=(vfO v o cl s).2.2.1
  ·rw [ae z,ae z]
   a j:Few (rsM (vfO v o cl s).2.2.2 [toK o.Last]) (k+3*v+1):=f.take _
   rw [show Source.mk (vfO v o cl s).2.2.2.Script (vfO v o cl s).2.2.2.At (vfO v o cl s).2.2.2.State (vfO v o cl s).2.2.2.Count=(vfO v o cl s).2.2.2 from rfl,show ([o.Last]:List Ext)=kv [toK o.Last] by rw [kv,List.map_singleton, <-d],T2 f.1 (by simp),obs,e3,a8v j.1.3 om,obs]
   cases h2:Rq (rsM (vfO v o cl s).2.2.2 [toK o.Last]).State bits o.Nonce with
   |false=>rw [du,cL,aa (by simp)];exact ⟨_,rfl,fun h=>absurd h (by decide)⟩
   |true=>
    a p:Few (tkM (rsM (vfO v o cl s).2.2.2 [toK o.Last]) (ic o.Nonce)) (k+3*v+1+1):=j.take _
    a hpl: ∀x∈plM (drL (tkM (rsM (vfO v o cl s).2.2.2 [toK o.Last]) (ic o.Nonce)) nq) ((2^q:Nat):Int),0<=x/\x<512:=fun x hx=>by
      obtain ⟨y,hy,rfl⟩:=bq.1 hx
      a g0:=pi y.A (b:=((2^q:Nat):Int)) om
      a g1:=md y.A (b:=((2^q:Nat):Int)) om
      a g2:=a4w (q+1) om
      a g3:2^(q+1)=2*2^q:=by rw [fT];omega
      omega
    a hsh:bC .i64 1 (((v+ρ:Nat)):Int)=((2^(v+ρ):Nat):Int):=Ta (v+ρ) om
    rw [aH,ba,ae rfl,H4,obs,vj j.1.3 (by rw [dJ];omega),obs,e1,ak ((v:Int)+(ρ:Int)) om om,brd om,bt (by simp only [ab,am];omega),show (v:Int)+(ρ:Int)=((v+ρ:Nat):Int) by omega,hsh,hq,a7Q q om,e2,Js p om om,obs,a1E (by rw [oo];omega) (SO p om om) om,obs,j8,aU]
    a r:(plM (drL (tkM (rsM (vfO v o cl s).2.2.2 [toK o.Last]) (ic o.Nonce)) nq) ((2^q:Nat):Int)).length=nq:=by rw [plM,aO,oo]
    a l:=VX (root:=root) (N:=(((plM (drL (tkM (rsM (vfO v o cl s).2.2.2 [toK o.Last]) (ic o.Nonce)) nq) ((2^q:Nat):Int)).length:Nat):Int)) (D:=(vfO v o cl s).2.1) (c:=(drS (tkM (rsM (vfO v o cl s).2.2.2 [toK o.Last]) (ic o.Nonce)) nq).Script) (c2:=(drS (tkM (rsM (vfO v o cl s).2.2.2 [toK o.Last]) (ic o.Nonce)) nq).At) (c3:=(drS (tkM (rsM (vfO v o cl s).2.2.2 [toK o.Last]) (ic o.Nonce)) nq).State) (c4:=(drS (tkM (rsM (vfO v o cl s).2.2.2 [toK o.Last]) (ic o.Nonce)) nq).Count) (c5:=cl.1.A) (c6:=cl.1.B) (c7:=(ρ:Int)) (c8:=(nq:Int)) (c9:=t.Grind) (c16:=(v:Int)) (c17:=(vfO v o cl s).2.2.1.1.A) (c18:=(vfO v o cl s).2.2.1.1.B) h e1 n (plM (drL (tkM (rsM (vfO v o cl s).2.2.2 [toK o.Last]) (ic o.Nonce)) nq) ((2^q:Nat):Int)) o.Queries [] [] rfl rfl (by rw [r];omega) (by rw [r,ai];omega) hpl rfl
    rw [bg,ai,hq,e3] at l
    by_cases h3:qsC (toK o.Last) (q+1) (root::o.Roots) (vfO v o cl s).2.1 (plM (drL (tkM (rsM (vfO v o cl s).2.2.2 [toK o.Last]) (ic o.Nonce)) nq) ((2^q:Nat):Int)) o.Queries=0
    ·a kk:=l.1 h3
     rw [show (((0:Nat):Int))=0 from rfl] at kk
     rw [kk,h3]
     exact ⟨_,rfl,fun _=>rfl⟩
    ·a kk:=l.2 h3
     rw [show (((0:Nat):Int))=0 from rfl] at kk
     rw [kk]
     exact ⟨_,rfl,fun h=>absurd h h3⟩
  ·rw [aa z,aa z]
   exact ⟨_,rfl,fun h=>absurd h (by decide)⟩
 ·obtain ⟨h10,e,h11,he⟩:=w.2 h0
  a key:Loop (bn 1 o.Rounds (v:Int) 0 0) ([],0,s.Script,s.At,s.State,s.Count,(v:Int),o.Rounds,o.Roots,o.Last.A,o.Last.B,o.Nonce,o.Queries,cl.1.A,cl.1.B)=_:=he
  rw [key,obs,kQ,aa h0,h10,obs]
  dsimp only
  rw [h11,brb (by decide)]
  exact ⟨_,rfl,fun h=>absurd h (by decide)⟩
end
section
variable {o:Opening} {v ρ nq bits:Nat} {t:Setting} {root:List UInt8} {P:List K} {cl:K} {s:Source} {k:Int}
end
section
theorem Zt {α:Type} {P:α->Prop} {f:α->Int->Option Int} {a:List α} {left:Int} (ha:a.length<=9223372036854775807) (h0: -1<=left) (h1:left<=1048576)
 (hf: ∀x∈a, ∀l, -1<=l->l<=1048576-> ∃r,f x l=some r/\ -9223372036854775808<=r/\r<=1048576/\(0<=r->P x)) {step:Int×Int->Option ((Int×Int)⊕(Unit⊕(Int×Int×Bool)))}
 (hs: ∀l i,step (l,i)=br (decide (i<(a.length:Int))) ((atL a i).bind fun x=>(f x l).bind fun r=>br (decide (r<0)) (some (.inr (.inl ()))) (some (.inl (r,IntKind.wrap .i64 (i+1))))) (some (.inr (.inr (l,i,decide (i<(a.length:Int))))))):
 ∃r,br (decide (IntKind.wrap .i64 (left-(a.length:Int))<0)) (some (-1:Int)) ((Loop step (IntKind.wrap .i64 (left-(a.length:Int)),0)).bind (alt (fun _=>some (-1)) (fun e=>some e.1)))=some r/\ -1<=r/\r<=1048576/\(0<=r->a.length<=1048576/\ ∀x∈a,P x):=by
 rw [ak _ om om]
 by_cases h:left-(a.length:Int)<0
 ·rw [brd h];exact ⟨_,rfl,by omega,by omega,by omega⟩
 ·rw [brn h]
  b key:=py (step:=step) (fun s=>0<=s.2/\s.2<=a.length/\0<=s.1/\s.1<=1048576/\ ∀j:Nat,(j:Int)<s.2-> ∀x,a[j]? =some x->P x) (fun s=>((a.length:Int)-s.2).toNat)
    (fun e:Unit⊕(Int×Int×Bool)=> ∀q,e= .inr q->0<=q.1/\q.1<=1048576/\ ∀x∈a,P x) ?_ (left-(a.length:Int),0) ⟨by dsimp only;omega,by dsimp only;omega,by dsimp only;omega,by dsimp only;omega,fun j k=>by dsimp only at k;omega⟩
  ·obtain ⟨e,he,hp⟩:=key
   rw [he]
   cases e with
   |inl u=>exact ⟨-1,rfl,by omega,by omega,by omega⟩
   |inr q=>b d:=hp q rfl;exact ⟨q.1,rfl,by omega,d.2.1,fun _=>⟨by omega,d.2.2⟩⟩
  ·rintro ⟨l,i⟩ ⟨w,i1,z,m,n⟩
   dsimp only at w i1 z m n
   rw [hs]
   by_cases hi:i<(a.length:Int)
   ·rw [brd hi]
    obtain ⟨x,o,p,hm⟩:=c4m w hi
    obtain ⟨r,hr,r0,r1,t⟩:=hf x hm l om m
    rw [o,obs,hr,obs]
    by_cases hn:r<0
    ·rw [brd hn];exact .inr ⟨_,rfl,fun q d=>by cases d⟩
    ·rw [brn hn,ak _ om om]
     refine .inl ⟨_,rfl,⟨by dsimp only;omega,by dsimp only;omega,by dsimp only;omega,r1,fun j k y v=> ?_⟩,by dsimp only;omega⟩
     dsimp only at k
     by_cases c:(j:Int)<i
     ·exact n j c y v
     ·b:j=i.toNat:=by omega
      subst this
      rw [p] at v;cases v
      exact t om
   ·rw [brn hi]
    refine .inr ⟨_,rfl,fun q d=> ?_⟩
    cases d
    refine ⟨z,m,fun x o=> ?_⟩
    obtain ⟨j,k,rfl⟩:=bp o
    exact n j om _ (aq k)
def SzT (x:List UInt8):Prop:=x.length<=1048576
def b1O (a:List (List UInt8)):Prop:=a.length<=1048576/\ ∀x∈a,SzT x
def a7L (a:List (List (List UInt8))):Prop:=a.length<=1048576/\ ∀x∈a,b1O x
def a9D (a:List (List Ext)):Prop:=a.length<=1048576/\ ∀x∈a,x.length<=1048576
def SzQ (q:Query):Prop:=q.Pairs.length<=1048576/\a7L q.Paths
def SzO (o:Opening):Prop:=a9D o.Rounds/\b1O o.Roots/\o.Queries.length<=1048576/\ ∀q∈o.Queries,SzQ q
def SzP (p:Proof):Prop:=SzT p.Root/\a9D p.Gates/\a9D p.Wires/\SzO p.Open
theorem SzO.sm {o:Opening} (h:SzO o):SmO o:=⟨by a:=h.1.1;omega,fun g c=>by a:=h.1.2 g c;omega,by a:=h.2.1.1;omega,by a:=h.2.2.1;omega,fun q b=>by a:=(h.2.2.2 q b).1;omega,fun q b p d=>by a:=((h.2.2.2 q b).2.2 p d).1;omega⟩
theorem DA {a:List (List Ext)} {left:Int} (b:bdL (bdL bdExt) a) (h0: -1<=left) (c:left<=1048576): ∃r,xL a left=some r/\ -1<=r/\r<=1048576/\(0<=r->a9D a):=
 Zt (f:=ve) (step:=ut a) b.1 h0 c (fun x d l e h=>by
  obtain ⟨r,j,n,k,m⟩:=FH (b.2 x d).1 e h
  exact ⟨r,j,by omega,k,m⟩) (fun l i=>rfl)
theorem FE {a:List (List UInt8)} {left:Int} (b:bdL bdS a) (h0: -1<=left) (d:left<=1048576): ∃r,rp a left=some r/\ -1<=r/\r<=1048576/\(0<=r->b1O a):=
 Zt (f:=fun x l=>some (IntKind.wrap .i64 (l-(x.length:Int)))) (step:=mN a) b.1 h0 d (fun x e l j k=>by
  c m:x.length<=9223372036854775807:=b.2 x e
  exact ⟨_,rfl,by rw [ak _ om om];omega,by rw [ak _ om om];omega,fun h=>by rw [ak _ om om] at h;show x.length<=_;omega⟩) (fun l i=>by simp only [mN,obs])
theorem P5 {a:List (List (List UInt8))} {left:Int} (b:bdL (bdL bdS) a) (h0: -1<=left) (c:left<=1048576): ∃r,wW a left=some r/\ -1<=r/\r<=1048576/\(0<=r->a7L a):=
 Zt (f:=rp) (step:=oM a) b.1 h0 c (fun x d l e h=>by
  obtain ⟨r,j,n,k,m⟩:=FE (b.2 x d) e h
  exact ⟨r,j,by omega,k,m⟩) (fun l i=>rfl)
theorem Xy {q:Query} {left:Int} (a:bdQuery q) (h0: -1<=left) (b:left<=1048576): ∃r,xV q left=some r/\ -1<=r/\r<=1048576/\(0<=r->SzQ q):=by
 obtain ⟨r,e,f,h,i⟩:=FH a.1.1 h0 b
 unfold xV
 rw [e,obs]
 by_cases c:r<0
 ·rw [brd c];exact ⟨_,rfl,by omega,by omega,by omega⟩
 ·rw [brn c]
  obtain ⟨j,k,l,m,n⟩:=P5 a.2 f h
  rw [k,obs]
  by_cases d:j<0
  ·rw [brd d];exact ⟨_,rfl,by omega,by omega,by omega⟩
  ·rw [brn d];exact ⟨_,rfl,l,m,fun _=>⟨i om,n om⟩⟩
theorem Tm {a:List Query} {left:Int} (b:bdL bdQuery a) (h0: -1<=left) (c:left<=1048576): ∃r,D4 a left=some r/\ -1<=r/\r<=1048576/\(0<=r->a.length<=1048576/\ ∀q∈a,SzQ q):=
 Zt (f:=xV) (step:=rO a) b.1 h0 c (fun x d l e h=>by
  obtain ⟨r,j,n,k,m⟩:=Xy (b.2 x d) e h
  exact ⟨r,j,by omega,k,m⟩) (fun l i=>rfl)
theorem PE {o:Opening} {left:Int} (a:bdOpening o) (h0: -1<=left) (b:left<=1048576): ∃r,vo o left=some r/\ -1<=r/\r<=1048576/\(0<=r->SzO o):=by
 obtain ⟨f,h,_,_,i⟩:=a
 obtain ⟨r,j,k,l,m⟩:=DA f h0 b
 unfold vo
 rw [j,obs]
 by_cases c:r<0
 ·rw [brd c];exact ⟨_,rfl,by omega,by omega,by omega⟩
 ·rw [brn c]
  obtain ⟨n,p,q,s,t⟩:=FE h k l
  rw [p,obs]
  by_cases d:n<0
  ·rw [brd d];exact ⟨_,rfl,by omega,by omega,by omega⟩
  ·rw [brn d]
   obtain ⟨u,v,w,x,y⟩:=Tm i q s
   rw [v,obs]
   by_cases e:u<0
   ·rw [brd e];exact ⟨_,rfl,by omega,by omega,by omega⟩
   ·rw [brn e];exact ⟨_,rfl,w,x,fun _=>⟨m om,t om,y om⟩⟩
theorem X5 {p:Proof} {left:Int} (f:bdProof p) (h0: -1<=left) (h1:left<=1048576): ∃r,C4 p left=some r/\ -1<=r/\r<=1048576/\(0<=r->SzP p):=by
 obtain ⟨h,i,_,_,_,j,_,k⟩:=f
 a b0':p.Root.length<=9223372036854775807:=h
 unfold C4
 rw [ak _ om om]
 by_cases b:left-(p.Root.length:Int)<0
 ·rw [brd b];exact ⟨_,rfl,by omega,by omega,by omega⟩
 ·rw [brn b]
  obtain ⟨r,l,m,n,o⟩:=DA i (show-1<=left-(p.Root.length:Int) by omega) om
  rw [l,obs]
  by_cases c:r<0
  ·rw [brd c];exact ⟨_,rfl,by omega,by omega,by omega⟩
  ·rw [brn c]
   obtain ⟨q,s,t,u,v⟩:=DA j m n
   rw [s,obs]
   by_cases d:q<0
   ·rw [brd d];exact ⟨_,rfl,by omega,by omega,by omega⟩
   ·rw [brn d]
    obtain ⟨w,x,y,z,k5⟩:=PE k t u
    rw [x,obs]
    by_cases e:w<0
    ·rw [brd e];exact ⟨_,rfl,by omega,by omega,by omega⟩
    ·rw [brn e];exact ⟨_,rfl,y,z,fun _=>⟨by show p.Root.length<=_;omega,o om,v om,k5 om⟩⟩
theorem Cr {a:List (List Ext)} (h:a9D a):tI a=some a:=by
 b:=h.1
 unfold tI
 rw [El om om om,aK,Jf (step:=uI a) (f:=vZ) (g:=fun x=>x) om (fun x c=>Fi (h.2 x c)) (fun l i=>rfl) (aw _)]
 simp
theorem FB {a:List (List UInt8)} (h:b1O a):oa a=some a:=by
 b:=h.1
 unfold oa
 rw [El om om om,aK,Jf (step:=qf a) (f:=fun x=>some x) (g:=fun x=>x) om (fun x c=>rfl) (fun l i=>rfl) (aw _)]
 simp
theorem OE {a:List (List (List UInt8))} (h:a7L a):rT a=some a:=by
 b:=h.1
 unfold rT
 rw [El om om om,aK,Jf (step:=ou a) (f:=oa) (g:=fun x=>x) om (fun x c=>FB (h.2 x c)) (fun l i=>rfl) (aw _)]
 simp
theorem YL {q:Query} (h:SzQ q):xJ q=some q:=by
 unfold xJ
 rw [Fi h.1,obs,OE h.2];rfl
theorem V8 {a:List Query} (h:a.length<=1048576) (b: ∀q∈a,SzQ q):yC a=some a:=by
 unfold yC
 rw [El om om om,aK,Jf (step:=rJ a) (f:=xJ) (g:=fun x=>x) om (fun x c=>YL (b x c)) (fun l i=>rfl) (aw _)]
 simp
theorem QR {o:Opening} (h:SzO o):vJ o=some o:=by
 unfold vJ sd
 rw [Cr h.1,obs,FB h.2.1,obs,obs,V8 h.2.2.1 h.2.2.2];rfl
theorem Ym {p:Proof} (h:SzP p):tx p=some p:=by
 unfold tx sd
 rw [Cr h.2.1,obs,obs,obs,obs,Cr h.2.2.1,obs,obs,QR h.2.2.2];rfl
theorem yN {a:List (List Ext)} (h:a9D a):sW a a=some true:=by
 b:=h.1
 unfold sW
 rw [fj rfl]
 exact MN (f:=vC) om (fun x c=>Bb (h.2 x c)) (fun t=>rfl)
theorem BR {a:List (List UInt8)} (h:b1O a):o8 a a=some true:=by
 b:=h.1
 unfold o8
 rw [fj rfl]
 refine MN (a:=a) (f:=fun x y=>some (x==y)) om (fun x _=>by simp) (fun t=> ?_)
 simp only [qz]
 rfl
theorem Ls {a:List (List (List UInt8))} (h:a7L a):rP a a=some true:=by
 b:=h.1
 unfold rP
 rw [fj rfl]
 exact MN (f:=o8) om (fun x c=>BR (h.2 x c)) (fun t=>rfl)
theorem QM {q:Query} (h:SzQ q):xP q q=some true:=by
 unfold xP
 rw [Bb h.1,obs,aH,ba,Ls h.2,obs,aH,ba]
theorem Oh {a:List Query} (h:a.length<=1048576) (b: ∀q∈a,SzQ q):y5 a a=some true:=by
 unfold y5
 rw [fj rfl]
 exact MN (f:=xP) om (fun x c=>QM (b x c)) (fun t=>rfl)
theorem LW {o:Opening} (h:SzO o):vA o o=some true:=by
 unfold vA
 rw [yN h.1,obs,aH,ba,BR h.2.1,obs,aH,ba,ol,obs,aH,ba,fj rfl,Oh h.2.2.1 h.2.2.2,obs,aH,ba]
theorem Q9 {p:Proof} (h:SzP p):Bk p p=some true:=by
 unfold Bk
 rw [Rs (by simp),yN h.2.1,obs,aH,ba,ol,obs,aH,ba,ol,obs,aH,ba,ol,obs,aH,ba,yN h.2.2.1,obs,aH,ba,ol,obs,aH,ba,LW h.2.2.2,obs,aH,ba]
end
end Go.AI.Fn
